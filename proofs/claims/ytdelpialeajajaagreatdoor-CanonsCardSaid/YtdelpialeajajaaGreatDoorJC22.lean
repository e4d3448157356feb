import Derived.Test.YtdelpialeajajaaGreatDoorJC21

/- Bytes and code points: places, blanks, names, numbers. -/
namespace Go.Proofs.YtdelpialeajajaaGreatDoor
open Go Go.RowKit
set_option maxRecDepth 10000

/-- a code point whose bytes are as they must be -/
structure OkR (r : Int) : Prop where
  pos : 0 ≤ r
  one : r < 128 → enc r = [UInt8.ofNat r.toNat]
  big : 128 ≤ r → enc r ≠ [] ∧ ∀ c ∈ enc r, 128 ≤ c.toNat
/-- the bytes ahead of the i-th point -/
def offI (rs : List Int) (i : Nat) : Nat := ((rs.take i).flatMap enc).length
/-- bytes that are points -/
structure BpE (s : ByteArray) (rs : List Int) : Prop where
  ok : ∀ r ∈ rs, OkR r
  eq : s.data.toList = rs.flatMap enc

theorem OkR.ne {r : Int} (h : OkR r) : enc r ≠ [] := by
  by_cases hr : r < 128
  · rw [h.one hr]; simp
  · exact (h.big (by omega)).1
theorem OkR.len {r : Int} (h : OkR r) : 0 < (enc r).length := List.length_pos_iff.2 h.ne
/-- a small point, or one of big bytes -/
theorem OkR.cases {r : Int} (h : OkR r) : (∃ k : Nat, k < 128 ∧ r = k ∧ enc r = [UInt8.ofNat k]) ∨ (128 ≤ r ∧ ∃ c t, enc r = c :: t ∧ 128 ≤ c.toNat) := by
  by_cases hr : r < 128
  · have := h.pos
    refine .inl ⟨r.toNat, by omega, by omega, h.one hr⟩
  · obtain ⟨h1, h2⟩ := h.big (by omega)
    cases he : enc r with
    | nil => exact absurd he h1
    | cons c t => exact .inr ⟨by omega, c, t, rfl, h2 c (by rw [he]; exact List.mem_cons_self)⟩

theorem drop_off (rs : List Int) (i : Nat) : (rs.flatMap enc).drop (offI rs i) = (rs.drop i).flatMap enc := by
  unfold offI
  conv => lhs; arg 2; rw [← List.take_append_drop i rs]
  rw [List.flatMap_append, List.drop_left]
theorem offI_zero (rs : List Int) : offI rs 0 = 0 := rfl
theorem offI_end {rs : List Int} {i : Nat} (h : rs.length ≤ i) : offI rs i = (rs.flatMap enc).length := by
  unfold offI
  rw [List.take_of_length_le h]
theorem bp_drop {rs : List Int} {j : Nat} (h : j < rs.length) : rs.drop j = nextL rs j :: rs.drop (j + 1) := by
  rw [List.drop_eq_getElem_cons h]
  unfold nextL
  rw [List.getD_eq_getElem?_getD, List.getElem?_eq_getElem h]
  rfl
theorem bp_end {rs : List Int} {i : Nat} (h : rs.length ≤ i) : nextL rs i = -1 := by
  unfold nextL
  rw [List.getD_eq_getElem?_getD, List.getElem?_eq_none h]
  rfl
theorem bp_mem {rs : List Int} {j : Nat} (h : j < rs.length) : nextL rs j ∈ rs := by
  have e : nextL rs j = rs[j] := by
    unfold nextL
    rw [List.getD_eq_getElem?_getD, List.getElem?_eq_getElem h]
    rfl
  rw [e]
  exact List.getElem_mem h
theorem offI_succ {rs : List Int} {i : Nat} (h : i < rs.length) : offI rs (i + 1) = offI rs i + (enc (nextL rs i)).length := by
  unfold offI
  rw [List.take_succ_eq_append_getElem h, List.flatMap_append, List.length_append]
  have e : nextL rs i = rs[i] := by
    unfold nextL
    rw [List.getD_eq_getElem?_getD, List.getElem?_eq_getElem h]
    rfl
  rw [e]
  simp

section
variable {s : ByteArray} {rs : List Int} (E : BpE s rs)
include E

theorem BpE.drop (i : Nat) : s.data.toList.drop (offI rs i) = (rs.drop i).flatMap enc := by rw [E.eq, drop_off]
theorem BpE.okn {i : Nat} (h : i < rs.length) : OkR (nextL rs i) := E.ok _ (bp_mem h)
theorem BpE.lt {i j : Nat} (hij : i < j) (hi : i < rs.length) : offI rs i < offI rs j := by
  induction j with
  | zero => omega
  | succ j ih =>
    by_cases hj : j < rs.length
    · rw [offI_succ hj]
      have := (E.okn hj).len
      by_cases h2 : i = j
      · subst h2; omega
      · have := ih (by omega); omega
    · have e1 := offI_end (rs := rs) (i := j + 1) (by omega)
      have e2 := offI_end (rs := rs) (i := j) (by omega)
      by_cases h2 : i = j
      · omega
      · have := ih (by omega); omega
theorem BpE.size : s.size = offI rs rs.length := by
  rw [offI_end (Nat.le_refl _), ← E.eq]
  simp
theorem BpE.le (i : Nat) : offI rs i ≤ s.size := by
  rw [E.size]
  by_cases h : i < rs.length
  · exact Nat.le_of_lt (E.lt h h)
  · rw [offI_end (by omega), offI_end (Nat.le_refl _)]
    exact Nat.le_refl _
theorem BpE.lts {i : Nat} (h : i < rs.length) : offI rs i < s.size := by rw [E.size]; exact E.lt h h
theorem BpE.iff {i j : Nat} (hi : i ≤ rs.length) (hj : j ≤ rs.length) : offI rs i < offI rs j ↔ i < j := by
  constructor
  · intro h
    apply Classical.byContradiction
    intro hc
    by_cases h2 : i = j
    · subst h2; omega
    · have := E.lt (i := j) (j := i) (by omega) (by omega)
      omega
  · intro h
    exact E.lt h (by omega)
theorem BpE.ok_drop {i : Nat} : ∀ r ∈ rs.drop i, OkR r := fun r hr => E.ok r (List.mem_of_mem_drop hr)

/-- small bytes are small points -/
theorem BpE.byte (i k : Nat) (hk : k < 128) : byteAt s (offI rs i) = some (UInt8.ofNat k) ↔ nextL rs i = (k : Int) := by
  have h0 : byteAt s (offI rs i) = (s.data.toList.drop (offI rs i)).head? := by
    unfold byteAt
    rw [List.head?_drop]
  rw [h0, E.drop]
  by_cases hi : i < rs.length
  · rw [bp_drop hi]
    rcases (E.okn hi).cases with ⟨n, hn, e, e2⟩ | ⟨hb, c, t, e2, hc⟩
    · rw [List.flatMap_cons, e2, e]
      simp only [List.cons_append, List.head?_cons, Option.some.injEq]
      constructor
      · intro h
        have := congrArg UInt8.toNat h
        rw [UInt8.toNat_ofNat', UInt8.toNat_ofNat', Nat.mod_eq_of_lt (by omega), Nat.mod_eq_of_lt (by omega)] at this
        omega
      · intro h
        have : n = k := by omega
        rw [this]
    · rw [List.flatMap_cons, e2]
      simp only [List.cons_append, List.head?_cons, Option.some.injEq]
      constructor
      · intro h
        have := congrArg UInt8.toNat h
        rw [UInt8.toNat_ofNat', Nat.mod_eq_of_lt (by omega)] at this
        omega
      · intro h
        omega
  · rw [bp_end (by omega), List.drop_of_length_le (by omega)]
    simp only [List.flatMap_nil, List.head?_nil]
    constructor
    · intro h; cases h
    · intro h; omega
end

/-- a test of bytes and one of points are one -/
structure Alike (P : UInt8 → Bool) (F : Int → Bool) : Prop where
  small : ∀ k : Fin 128, P (UInt8.ofNat k.1) = F (k.1 : Int)
  bigB : ∀ c : UInt8, 128 ≤ c.toNat → P c = false
  bigR : ∀ r : Int, 128 ≤ r → F r = false
theorem u8_ne {c : UInt8} {n : Nat} (hn : n < 128) (h : 128 ≤ c.toNat) : (c == UInt8.ofNat n) = false := by
  rw [beq_eq_false_iff_ne]
  intro e
  rw [e, UInt8.toNat_ofNat', Nat.mod_eq_of_lt (by omega)] at h
  omega
theorem alike_bl : Alike isBl blankL where
  small := by decide
  bigB c h := by
    unfold isBl
    have h1 := u8_ne (n := 32) (by omega) h
    have h2 := u8_ne (n := 9) (by omega) h
    have h3 := u8_ne (n := 10) (by omega) h
    have h4 := u8_ne (n := 13) (by omega) h
    have e1 : (c == 32) = false := h1
    have e2 : (c == 9) = false := h2
    have e3 : (c == 10) = false := h3
    have e4 : (c == 13) = false := h4
    rw [e1, e2, e3, e4]
    rfl
  bigR r h := by
    unfold blankL
    have h1 : r ≠ 32 := by omega
    have h2 : r ≠ 9 := by omega
    have h3 : r ≠ 10 := by omega
    have h4 : r ≠ 13 := by omega
    simp [h1, h2, h3, h4]
theorem alike_let : Alike letB letterL where
  small := by decide
  bigB c h := by
    unfold letB
    have h1 : ¬ c.toNat ≤ 122 := by omega
    have h2 : ¬ c.toNat ≤ 90 := by omega
    have h3 : ¬ c.toNat = 95 := by omega
    simp [h1, h2, h3]
  bigR r h := by
    unfold letterL
    have h1 : ¬ r ≤ 122 := by omega
    have h2 : ¬ r ≤ 90 := by omega
    have h3 : ¬ r = 95 := by omega
    simp [h1, h2, h3]
theorem alike_dig : Alike digB digitL where
  small := by decide
  bigB c h := by
    unfold digB
    have h1 : ¬ c.toNat ≤ 57 := by omega
    simp [h1]
  bigR r h := by
    unfold digitL
    have h1 : ¬ r ≤ 57 := by omega
    simp [h1]

section
variable {s : ByteArray} {rs : List Int} (E : BpE s rs)
include E

/-- n small points -/
def Small (rs : List Int) (i n : Nat) : Prop := ∀ j, j < n → 0 ≤ nextL rs (i + j) ∧ nextL rs (i + j) < 128
omit E in
theorem Small.lt {rs : List Int} {i n : Nat} (h : Small rs i n) : i + n ≤ rs.length ∨ n = 0 := by
  by_cases hn : n = 0
  · exact .inr hn
  · refine .inl ?_
    apply Classical.byContradiction
    intro hc
    have := (h (n - 1) (by omega)).1
    rw [bp_end (by omega)] at this
    omega
theorem BpE.off_add {i : Nat} : ∀ n, Small rs i n → offI rs (i + n) = offI rs i + n
  | 0, _ => rfl
  | n + 1, h => by
    have h1 := BpE.off_add n (fun j hj => h j (by omega))
    have hl : i + n < rs.length := by
      rcases h.lt with k | k <;> omega
    have h2 := h n (by omega)
    rw [show i + (n + 1) = i + n + 1 from rfl, offI_succ hl, (E.okn hl).one h2.2, h1]
    simp only [List.length_cons, List.length_nil]
    omega
theorem BpE.piece {i n : Nat} (h : Small rs i n) : (s.data.toList.drop (offI rs i)).take n = pieceL rs i n := by
  have h1 := E.off_add n h
  have h2 : (rs.drop i).flatMap enc = ((rs.drop i).take n).flatMap enc ++ (rs.drop (i + n)).flatMap enc := by
    rw [← List.flatMap_append, ← List.drop_drop, List.take_append_drop]
  have h3 : (((rs.drop i).take n).flatMap enc).length = n := by
    have a1 : (rs.take (i + n)).flatMap enc = (rs.take i).flatMap enc ++ ((rs.drop i).take n).flatMap enc := by
      rw [← List.flatMap_append, List.take_add]
    have a2 := congrArg List.length a1
    rw [List.length_append] at a2
    unfold offI at h1
    omega
  unfold pieceL
  rw [E.drop, h2, List.take_append_of_le_length (by omega), List.take_of_length_le (by omega)]

/-- blanks are blanks -/
theorem BpE.skip (i : Nat) : blankN (s.data.toList.drop (offI rs i)) = ((rs.drop i).takeWhile blankL).length ∧ Small rs i ((rs.drop i).takeWhile blankL).length := by
  rw [E.drop]
  have h0 : ∀ r ∈ rs.drop i, OkR r := E.ok_drop
  have hn : ∀ j, nextL rs (i + j) = (rs.drop i).getD j (-1) := fun j => by
    unfold nextL
    rw [List.getD_eq_getElem?_getD, List.getD_eq_getElem?_getD, List.getElem?_drop]
  unfold Small
  simp only [hn]
  generalize rs.drop i = t at h0
  clear hn
  induction t with
  | nil => exact ⟨rfl, fun j hj => by simp at hj⟩
  | cons r t ih =>
    have ih2 := ih (fun x hx => h0 x (List.mem_cons_of_mem _ hx))
    rcases (h0 r List.mem_cons_self).cases with ⟨n, hn, e, e2⟩ | ⟨hb, c, u, e2, hc⟩
    · have e3 := alike_bl.small ⟨n, hn⟩
      rw [List.flatMap_cons, e2]
      by_cases hbl : isBl (UInt8.ofNat n) = true
      · have h4 : blankL r = true := by rw [e, ← e3]; exact hbl
        unfold blankN
        rw [List.cons_append, List.takeWhile_cons_of_pos hbl, List.takeWhile_cons_of_pos h4]
        refine ⟨by simpa [blankN] using ih2.1, fun j hj => ?_⟩
        cases j with
        | zero => simp; omega
        | succ j =>
          have := ih2.2 j (by simpa using hj)
          simpa using this
      · have h4 : ¬ blankL r = true := by rw [e, ← e3]; exact hbl
        unfold blankN
        rw [List.cons_append, List.takeWhile_cons_of_neg hbl, List.takeWhile_cons_of_neg h4]
        exact ⟨rfl, fun j hj => by simp at hj⟩
    · have h4 : ¬ blankL r = true := by rw [alike_bl.bigR r hb]; simp
      have h5 : ¬ isBl c = true := by rw [alike_bl.bigB c hc]; simp
      unfold blankN
      rw [List.flatMap_cons, e2, List.cons_append, List.takeWhile_cons_of_neg h5, List.takeWhile_cons_of_neg h4]
      exact ⟨rfl, fun j hj => by simp at hj⟩
theorem BpE.skip_off (i : Nat) : offI rs i + blankN (s.data.toList.drop (offI rs i)) = offI rs (skipL rs i) := by
  obtain ⟨h1, h2⟩ := E.skip i
  rw [h1]
  unfold skipL
  rw [E.off_add _ h2]

/-- names are names -/
theorem BpE.nm_go (i : Nat) : ∀ f n, rs.length < i + n + f → nmGo n ((rs.drop (i + n)).flatMap enc) = runGo nameF rs i f n ∧ n ≤ runGo nameF rs i f n ∧ ∀ j, n ≤ j → j < runGo nameF rs i f n → 0 ≤ nextL rs (i + j) ∧ nextL rs (i + j) < 128
  | 0, n, h => by
    rw [List.drop_of_length_le (by omega)]
    exact ⟨rfl, Nat.le_refl _, fun j h1 h2 => by simp [runGo] at h2; omega⟩
  | f + 1, n, h => by
    rw [runGo]
    by_cases hi : i + n < rs.length
    · rw [bp_drop hi]
      rcases (E.okn hi).cases with ⟨k, hk, e, e2⟩ | ⟨hb, c, u, e2, hc⟩
      · rw [List.flatMap_cons, e2, List.cons_append, nmGo, List.nil_append]
        have a1 := alike_let.small ⟨k, hk⟩
        have a2 := alike_dig.small ⟨k, hk⟩
        simp only at a1 a2
        by_cases hc : nameF (nextL rs (i + n)) n = true
        · rw [if_pos hc, if_pos (by
            rw [e] at hc
            unfold nameF at hc
            rw [← a1, ← a2] at hc
            simp only [Bool.and_eq_true, Bool.or_eq_true, decide_eq_true_eq] at hc
            exact ⟨hc.1, hc.2.imp id (fun x => ⟨by omega, x.2⟩)⟩)]
          have ih := BpE.nm_go i f (n + 1) (by omega)
          rw [← Nat.add_assoc] at ih
          refine ⟨ih.1, by omega, fun j h1 h2 => ?_⟩
          by_cases hj : j = n
          · subst hj
            rw [e]
            omega
          · exact ih.2.2 j (by omega) h2
        · rw [if_neg hc, if_neg (by
            intro q
            apply hc
            rw [e]
            unfold nameF
            rw [← a1, ← a2]
            simp only [Bool.and_eq_true, Bool.or_eq_true, decide_eq_true_eq]
            exact ⟨q.1, q.2.imp id (fun x => ⟨by omega, x.2⟩)⟩)]
          exact ⟨rfl, Nat.le_refl _, fun j h1 h2 => by omega⟩
      · have b1 : nameF (nextL rs (i + n)) n = false := by
          unfold nameF
          rw [alike_let.bigR _ hb, alike_dig.bigR _ hb]
          simp
        rw [List.flatMap_cons, e2, List.cons_append, nmGo, if_neg (by
          rw [alike_let.bigB _ hc, alike_dig.bigB _ hc]
          simp), b1]
        exact ⟨rfl, Nat.le_refl _, fun j h1 h2 => by simp at h2; omega⟩
    · rw [List.drop_of_length_le (by omega), bp_end (by omega)]
      have b1 : nameF (-1) n = false := by
        unfold nameF
        rw [show letterL (-1) = false from rfl, show digitL (-1) = false from rfl]
        simp
      rw [b1]
      exact ⟨rfl, Nat.le_refl _, fun j h1 h2 => by simp at h2; omega⟩
theorem BpE.nm (i : Nat) : nmB (s.data.toList.drop (offI rs i)) = nameN rs i ∧ Small rs i (nameN rs i) := by
  rw [E.drop]
  have := E.nm_go i (rs.length + 1) 0 (by omega)
  rw [Nat.add_zero] at this
  exact ⟨this.1, fun j hj => this.2.2 j (Nat.zero_le _) hj⟩

theorem BpE.head (i k : Nat) (hk : k < 128) (h0 : 0 < k) : ((rs.drop i).flatMap enc).headD 0 = UInt8.ofNat k ↔ nextL rs i = (k : Int) := by
  rw [← E.byte i k hk]
  unfold byteAt
  rw [← List.head?_drop, E.drop]
  cases (rs.drop i).flatMap enc with
  | nil =>
    simp only [List.headD_nil, List.head?_nil]
    constructor
    · intro h
      have := congrArg UInt8.toNat h
      rw [UInt8.toNat_ofNat', Nat.mod_eq_of_lt (by omega)] at this
      simp at this
      omega
    · intro h; cases h
  | cons a t => simp

/-- whole numbers are whole numbers -/
theorem BpE.wh_go (i : Nat) (c0 : UInt8) (hc0 : c0 = 48 ↔ nextL rs i = 48) : ∀ f n, rs.length < i + n + f → (2 ≤ n → nextL rs i ≠ 48) → whGo c0 n ((rs.drop (i + n)).flatMap enc) = runGo (wholeF (nextL rs i)) rs i f n ∧ n ≤ runGo (wholeF (nextL rs i)) rs i f n ∧
      ∀ j, n ≤ j → j < runGo (wholeF (nextL rs i)) rs i f n → 0 ≤ nextL rs (i + j) ∧ nextL rs (i + j) < 128
  | 0, n, h, _ => by
    rw [List.drop_of_length_le (by omega)]
    exact ⟨rfl, Nat.le_refl _, fun j h1 h2 => by simp [runGo] at h2; omega⟩
  | f + 1, n, h, hn2 => by
    rw [runGo]
    by_cases hi : i + n < rs.length
    · rw [bp_drop hi]
      rcases (E.okn hi).cases with ⟨k, hk, e, e2⟩ | ⟨hb, c, u, e2, hc⟩
      · rw [List.flatMap_cons, e2, List.cons_append, whGo, List.nil_append]
        have a2 := alike_dig.small ⟨k, hk⟩
        simp only at a2
        by_cases hc : wholeF (nextL rs i) (nextL rs (i + n)) n = true
        · have hcc := hc
          rw [e] at hcc
          unfold wholeF at hcc
          rw [← a2] at hcc
          simp only [Bool.and_eq_true, Bool.or_eq_true, decide_eq_true_eq, bne_iff_ne] at hcc
          rw [if_pos hc, if_pos (by
            refine ⟨hcc.1.1, hcc.1.2, fun q => ?_⟩
            rcases hcc.2 with q2 | q2
            · omega
            · exact q2 (hc0.1 q.2))]
          have ih := BpE.wh_go i c0 hc0 f (n + 1) (by omega) (fun h2 => by
            rcases hcc.2 with q2 | q2
            · omega
            · exact q2)
          rw [← Nat.add_assoc] at ih
          refine ⟨ih.1, by omega, fun j h1 h2 => ?_⟩
          by_cases hj : j = n
          · subst hj
            rw [e]
            omega
          · exact ih.2.2 j (by omega) h2
        · rw [if_neg hc, if_neg (by
            intro q
            apply hc
            rw [e]
            unfold wholeF
            rw [← a2]
            simp only [Bool.and_eq_true, Bool.or_eq_true, decide_eq_true_eq, bne_iff_ne]
            refine ⟨⟨q.1, q.2.1⟩, ?_⟩
            by_cases hn : n = 0
            · exact .inl hn
            · refine .inr fun h48 => ?_
              by_cases h1 : n = 1
              · exact q.2.2 ⟨h1, hc0.2 h48⟩
              · exact hn2 (by omega) h48)]
          exact ⟨rfl, Nat.le_refl _, fun j h1 h2 => by omega⟩
      · have b1 : wholeF (nextL rs i) (nextL rs (i + n)) n = false := by
          unfold wholeF
          rw [alike_dig.bigR _ hb]
          simp
        rw [List.flatMap_cons, e2, List.cons_append, whGo, if_neg (by
          rw [alike_dig.bigB _ hc]
          simp), b1]
        exact ⟨rfl, Nat.le_refl _, fun j h1 h2 => by simp at h2; omega⟩
    · rw [List.drop_of_length_le (by omega), bp_end (i := i + n) (by omega)]
      have b1 : wholeF (nextL rs i) (-1) n = false := by
        unfold wholeF
        rw [show digitL (-1) = false from rfl]
        simp
      rw [b1]
      exact ⟨rfl, Nat.le_refl _, fun j h1 h2 => by simp at h2; omega⟩
theorem BpE.wh (i : Nat) : whB (s.data.toList.drop (offI rs i)) = wholeN rs i ∧ Small rs i (wholeN rs i) := by
  rw [E.drop]
  have := E.wh_go i _ (E.head i 48 (by omega) (by omega)) (rs.length + 1) 0 (by omega) (fun h => by omega)
  rw [Nat.add_zero] at this
  exact ⟨this.1, fun j hj => this.2.2 j (Nat.zero_le _) hj⟩

/-- a word of small points -/
theorem BpE.word (W : List Nat) (hW : ∀ k ∈ W, k < 128) : ∀ i, (s.data.toList.drop (offI rs i)).take W.length = W.map UInt8.ofNat ↔ (rs.drop i).take W.length = W.map (fun k : Nat => (k : Int)) := by
  induction W with
  | nil => intro i; simp
  | cons k W ih =>
    intro i
    have hk := hW k List.mem_cons_self
    have ih2 := ih (fun x hx => hW x (List.mem_cons_of_mem _ hx)) (i + 1)
    have hb := E.byte i k hk
    unfold byteAt at hb
    rw [← List.head?_drop] at hb
    by_cases hi : i < rs.length
    · rw [bp_drop hi]
      by_cases he : nextL rs i = (k : Int)
      · have e2 : enc (nextL rs i) = [UInt8.ofNat k] := by
          have := (E.okn hi).one (by omega)
          rw [he] at this ⊢
          exact this
        rw [E.drop, bp_drop hi, List.flatMap_cons, e2, he]
        rw [E.drop] at ih2
        simp only [List.cons_append, List.nil_append, List.length_cons, List.take_succ_cons, List.map_cons, List.cons.injEq, true_and]
        exact ih2
      · have h1 := fun q => he (hb.1 q)
        constructor
        · intro q
          exfalso
          apply h1
          rw [List.length_cons, List.map_cons] at q
          cases hd : List.drop (offI rs i) s.data.toList with
          | nil => rw [hd] at q; simp at q
          | cons a t =>
            rw [hd, List.take_succ_cons] at q
            have := (List.cons.inj q).1
            rw [this]
            rfl
        · intro q
          rw [List.length_cons, List.map_cons, List.take_succ_cons] at q
          exact absurd (List.cons.inj q).1 he
    · rw [E.drop, List.drop_of_length_le (by omega)]
      simp
end
end Go.Proofs.YtdelpialeajajaaGreatDoor

/- The document's reader at a point; a message's marks. -/
namespace Go.Proofs.YtdelpialeajajaaGreatDoor
open Go Go.RowKit
set_option maxRecDepth 10000

theorem needs_yes {s : ByteArray} {x : Sc} {c : UInt8} (h : byteAt s x.i = some c) : needsS s x c = { x with i := x.i + 1 } := if_pos h
theorem needs_no {s : ByteArray} {x : Sc} {c : UInt8} (h : byteAt s x.i ≠ some c) : needsS s x c = faultS x 3 x.i := if_neg h
theorem branchA_eq {s : ByteArray} {x : Sc} {num : Bool} (h : eqB s x.i num = true) : branchA s x num = wholeS s { x with i := x.i + 1 } := if_pos h
theorem branchA_ne {s : ByteArray} {x : Sc} {num : Bool} (h : ¬ eqB s x.i num = true) : branchA s x num = if num = true ∧ nameT s x.i ∉ catsL then faultS (nameS s x) 3 x.i else nameS s x := if_neg h
theorem branchT_eq {s : ByteArray} {x : Sc} {num : Bool} (h : eqB s x.i num = true) : branchT s x num = 61 :: wholeT s (x.i + 1) := if_pos h
theorem branchT_ne {s : ByteArray} {x : Sc} {num : Bool} (h : ¬ eqB s x.i num = true) : branchT s x num = nameT s x.i := if_neg h
/-- the reader at a point -/
def stI (rs : List Int) (i : Nat) (O : List Mk) (st : List Bool) : Sc := ⟨offI rs i, O, st, 0, 0⟩
theorem stI_i (rs : List Int) (i : Nat) (O : List Mk) (st : List Bool) : (stI rs i O st).i = offI rs i := rfl
/-- from x the reader comes to y -/
def Goes (s : ByteArray) (x y : Sc) : Prop := ∃ n, ∀ k, markGo s (n + k) x = markGo s k y
theorem Goes.refl {s : ByteArray} (x : Sc) : Goes s x x := ⟨0, fun k => by rw [Nat.zero_add]⟩
theorem Goes.trans {s : ByteArray} {x y z : Sc} (h : Goes s x y) (g : Goes s y z) : Goes s x z := by
  obtain ⟨n, hn⟩ := h
  obtain ⟨m, hm⟩ := g
  exact ⟨n + m, fun k => by rw [Nat.add_assoc, hn, hm]⟩
theorem Goes.step {s : ByteArray} {x : Sc} (h : x.err = 0) (hi : x.i < s.size) : Goes s x (oneS s x) := ⟨1, fun k => by rw [Nat.add_comm, markGo_more ⟨h, hi⟩]⟩
/-- a fault at a place -/
structure Bad (e a : Nat) (x : Sc) : Prop where
  err : x.err = e
  ne : e ≠ 0
  pl : x.place = a
/-- from x the reader comes to a fault -/
def Falls (s : ByteArray) (rs : List Int) (x : Sc) (e a : Nat) : Prop :=
  a ≤ rs.length ∧ ∃ y, Goes s x y ∧ (Bad e (offI rs a) y ∨ (y.err = 0 ∧ s.size ≤ y.i ∧ y.opn ≠ [] ∧ e = 3 ∧ a = rs.length))
theorem Falls.back {s : ByteArray} {rs : List Int} {x y : Sc} {e a : Nat} (h : Goes s x y) (g : Falls s rs y e a) : Falls s rs x e a := by
  obtain ⟨h0, z, h1, h2⟩ := g
  exact ⟨h0, z, h.trans h1, h2⟩
theorem Bad.falls {s : ByteArray} {rs : List Int} {x : Sc} {e a : Nat} (h : Bad e (offI rs a) x) (ha : a ≤ rs.length) : Falls s rs x e a := ⟨ha, x, .refl _, .inl h⟩

section
variable {e a : Nat} {x : Sc}
theorem Bad.fault (h : Bad e a x) (e' a' : Nat) : Bad e a (faultS x e' a') := by
  unfold faultS
  rw [if_neg (by rw [h.err]; exact h.ne)]
  exact h
theorem Bad.i (h : Bad e a x) (i : Nat) : Bad e a { x with i := i } := ⟨h.err, h.ne, h.pl⟩
theorem Bad.out (h : Bad e a x) (O : List Mk) : Bad e a { x with out := O } := ⟨h.err, h.ne, h.pl⟩
theorem Bad.blanks (h : Bad e a x) (s : ByteArray) : Bad e a (blanksS s x) := ⟨h.err, h.ne, h.pl⟩
theorem Bad.needs (h : Bad e a x) (s : ByteArray) (c : UInt8) : Bad e a (needsS s x c) := by
  unfold needsS
  split
  · exact h.i _
  · exact h.fault _ _
theorem Bad.name (h : Bad e a x) (s : ByteArray) : Bad e a (nameS s x) := by
  unfold nameS
  split
  · exact (h.fault _ _).i _
  · exact h.i _
theorem Bad.whole (h : Bad e a x) (s : ByteArray) : Bad e a (wholeS s x) := by
  unfold wholeS
  split
  · exact (h.fault _ _).i _
  · exact h.i _
theorem Bad.branch (h : Bad e a x) (s : ByteArray) (num : Bool) : Bad e a (branchS s x num) := by
  unfold branchS
  rw [if_pos (by rw [h.err]; exact h.ne)]
  exact h
theorem Bad.br (h : Bad e a x) (s : ByteArray) (nm how : Wd) (p : Nat) (num : Bool) : Bad e a (brS s nm how p num x) := by
  unfold brS
  dsimp only
  refine Bad.branch (Bad.out ?_ _) _ _
  split
  · exact (((h.i _).blanks s).whole s).blanks s
  · exact h
end

section
variable {s : ByteArray} {rs : List Int} (E : BpE s rs)
include E
theorem BpE.blanks (i : Nat) (O : List Mk) (st : List Bool) : blanksS s (stI rs i O st) = stI rs (skipL rs i) O st := by
  unfold blanksS stI
  rw [Sc.mk.injEq]
  exact ⟨E.skip_off i, rfl, rfl, rfl, rfl⟩
theorem BpE.skip_end {i : Nat} (h : i ≤ rs.length) : skipL rs i ≤ rs.length := by
  rcases (E.skip i).2.lt with k | k
  · exact k
  · unfold skipL
    omega
theorem BpE.needs (i k : Nat) (hk : k < 128) (O : List Mk) (st : List Bool) : (nextL rs i = (k : Int) ∧ i + 1 ≤ rs.length ∧ needsS s (stI rs i O st) (UInt8.ofNat k) = stI rs (i + 1) O st) ∨ (nextL rs i ≠ (k : Int) ∧ Bad 3 (offI rs i) (needsS s (stI rs i O st) (UInt8.ofNat k))) := by
  have hb := E.byte i k hk
  by_cases h : nextL rs i = (k : Int)
  · rw [needs_yes (x := stI rs i O st) (hb.2 h)]
    have hs : Small rs i 1 := fun j hj => by
      have : j = 0 := by omega
      subst this
      rw [Nat.add_zero, h]
      omega
    refine .inl ⟨h, by rcases hs.lt with q | q <;> omega, ?_⟩
    unfold stI
    rw [E.off_add 1 hs]
  · rw [needs_no (x := stI rs i O st) (fun q => h (hb.1 q))]
    exact .inr ⟨h, rfl, by decide, rfl⟩
omit E in
theorem bp_next {i k : Nat} (h : nextL rs i = (k : Int)) : i < rs.length := by
  apply Classical.byContradiction
  intro hc
  rw [bp_end (by omega)] at h
  omega
theorem BpE.off1 {i k : Nat} (hk : k < 128) (h : nextL rs i = (k : Int)) : offI rs (i + 1) = offI rs i + 1 := by
  have hs : Small rs i 1 := fun j hj => by
    have : j = 0 := by omega
    subst this
    rw [Nat.add_zero, h]
    omega
  exact E.off_add 1 hs
theorem BpE.nmT (i : Nat) : nameT s (offI rs i) = pieceL rs i (nameN rs i) := by
  unfold nameT
  rw [(E.nm i).1, E.piece (E.nm i).2]
theorem BpE.whT (i : Nat) : wholeT s (offI rs i) = pieceL rs i (wholeN rs i) := by
  unfold wholeT
  rw [(E.wh i).1, E.piece (E.wh i).2]
theorem BpE.name {i : Nat} (hi : i ≤ rs.length) (O : List Mk) (st : List Bool) :
    (nameN rs i = 0 ∧ nameP rs i = .error (3, i) ∧ Bad 3 (offI rs i) (nameS s (stI rs i O st))) ∨
    (nameN rs i ≠ 0 ∧ nameP rs i = .ok (pieceL rs i (nameN rs i), i + nameN rs i) ∧ i + nameN rs i ≤ rs.length ∧ nameS s (stI rs i O st) = stI rs (i + nameN rs i) O st) := by
  obtain ⟨h1, h2⟩ := E.nm i
  unfold nameP nameS
  by_cases h : nameN rs i = 0
  · rw [if_pos h, if_pos (by show nmB (s.data.toList.drop (offI rs i)) = 0; rw [h1, h])]
    exact .inl ⟨h, rfl, rfl, by decide, rfl⟩
  · rw [if_neg h, if_neg (by show ¬ nmB (s.data.toList.drop (offI rs i)) = 0; rw [h1]; exact h)]
    refine .inr ⟨h, rfl, by rcases h2.lt with q | q <;> omega, ?_⟩
    unfold stI
    rw [Sc.mk.injEq]
    refine ⟨?_, rfl, rfl, rfl, rfl⟩
    rw [E.off_add _ h2]
    show offI rs i + nmB (s.data.toList.drop (offI rs i)) = _
    rw [h1]
theorem BpE.whole {i : Nat} (hi : i ≤ rs.length) (O : List Mk) (st : List Bool) :
    (wholeP rs i = .error (3, i) ∧ Bad 3 (offI rs i) (wholeS s (stI rs i O st))) ∨
    (0 < wholeN rs i ∧ wholeP rs i = .ok (pieceL rs i (wholeN rs i), i + wholeN rs i) ∧ i + wholeN rs i ≤ rs.length ∧ wholeS s (stI rs i O st) = stI rs (i + wholeN rs i) O st) := by
  obtain ⟨h1, h2⟩ := E.wh i
  unfold wholeP wholeS
  by_cases h : wholeN rs i = 0
  · rw [if_pos h, if_pos (by show whB (s.data.toList.drop (offI rs i)) = 0; rw [h1, h])]
    exact .inl ⟨rfl, rfl, by decide, rfl⟩
  · rw [if_neg h, if_neg (by show ¬ whB (s.data.toList.drop (offI rs i)) = 0; rw [h1]; exact h)]
    refine .inr ⟨by omega, rfl, by rcases h2.lt with q | q <;> omega, ?_⟩
    unfold stI
    rw [Sc.mk.injEq]
    refine ⟨?_, rfl, rfl, rfl, rfl⟩
    rw [E.off_add _ h2]
    show offI rs i + whB (s.data.toList.drop (offI rs i)) = _
    rw [h1]

/-- a branch's selector -/
theorem BpE.key (num : Bool) {i : Nat} (hi : i ≤ rs.length) (O : List Mk) (st : List Bool) :
    (∃ e a, keyP rs num i = .error (e, a) ∧ a ≤ rs.length ∧ Bad e (offI rs a) (branchA s (stI rs i O st) num)) ∨
    (∃ k j, keyP rs num i = .ok (k, j) ∧ i < j ∧ j ≤ rs.length ∧ branchT s (stI rs i O st) num = k ∧ branchA s (stI rs i O st) num = stI rs j O st) := by
  have hb := E.byte i 61 (by decide)
  have he : eqB s (offI rs i) num = true ↔ num = true ∧ nextL rs i = 61 := by
    unfold eqB
    rw [Bool.and_eq_true, decide_eq_true_eq]
    exact and_congr_right fun _ => hb
  unfold keyP
  by_cases h : num = true ∧ nextL rs i = 61
  · rw [if_pos h, branchA_eq (x := stI rs i O st) (he.2 h), branchT_eq (x := stI rs i O st) (he.2 h)]
    have hl := bp_next (k := 61) h.2
    have h1 : ({ stI rs i O st with i := offI rs i + 1 } : Sc) = stI rs (i + 1) O st := by
      unfold stI
      rw [E.off1 (k := 61) (by decide) h.2]
    have h2 : offI rs i + 1 = offI rs (i + 1) := (E.off1 (k := 61) (by decide) h.2).symm
    rcases E.whole (i := i + 1) (by omega) O st with ⟨e1, e2⟩ | ⟨e0, e1, e2, e3⟩
    · refine .inl ⟨3, i + 1, by rw [e1]; rfl, by omega, ?_⟩
      show Bad _ _ (wholeS s { stI rs i O st with i := offI rs i + 1 })
      rw [h1]
      exact e2
    · refine .inr ⟨_, _, by rw [e1]; rfl, by omega, e2, ?_, ?_⟩
      · show 61 :: wholeT s (offI rs i + 1) = _
        rw [h2, E.whT]
      · show wholeS s { stI rs i O st with i := offI rs i + 1 } = _
        rw [h1]
        exact e3
  · rw [if_neg h, branchA_ne (x := stI rs i O st) (fun q => h (he.1 q)), branchT_ne (x := stI rs i O st) (fun q => h (he.1 q)), stI_i]
    have h1 : nameT s (offI rs i) = pieceL rs i (nameN rs i) := E.nmT i
    rw [h1]
    rcases E.name hi O st with ⟨e0, e1, e2⟩ | ⟨e0, e1, e2, e3⟩
    · refine .inl ⟨3, i, by rw [e1]; rfl, hi, ?_⟩
      split
      · exact e2.fault _ _
      · exact e2
    · rw [e1, then_ok, e3]
      by_cases hc : num = true ∧ pieceL rs i (nameN rs i) ∉ catsL
      · rw [if_pos hc, if_pos hc]
        exact .inl ⟨3, i, rfl, hi, rfl, by decide, rfl⟩
      · rw [if_neg hc, if_neg hc]
        exact .inr ⟨_, _, rfl, by omega, e2, rfl, rfl⟩
end

/-- the words of the forms -/
def formW : Nat → Wd
  | 0 => selW
  | 1 => pluW
  | _ => ordW
/-- a message's marks -/
def marksF (rs : List Int) : Fo → List Mk
  | .nil => []
  | .text t r => ⟨116, t, [], [], [], 0⟩ :: marksF rs r
  | .hash r => ⟨35, [], [], [], [], 0⟩ :: marksF rs r
  | .put n a r => ⟨112, [], n, [], [], offI rs a⟩ :: marksF rs r
  | .num n a r => ⟨110, [], n, numW, [], offI rs a⟩ :: marksF rs r
  | .br n a f o c bs r => ⟨40, [], n, formW f, o, offI rs a⟩ :: (marksF rs bs ++ ⟨41, [], [], [], [], offI rs c⟩ :: marksF rs r)
  | .leg k a m r => ⟨91, k, [], [], [], offI rs a⟩ :: (marksF rs m ++ ⟨93, [], [], [], [], 0⟩ :: marksF rs r)
theorem marksF_app (rs : List Int) : ∀ f g : Fo, marksF rs (f.app g) = marksF rs f ++ marksF rs g
  | .nil, g => rfl
  | .text t r, g => by simp [marksF, Fo.app, marksF_app rs r g]
  | .hash r, g => by simp [marksF, Fo.app, marksF_app rs r g]
  | .put n a r, g => by simp [marksF, Fo.app, marksF_app rs r g]
  | .num n a r, g => by simp [marksF, Fo.app, marksF_app rs r g]
  | .br n a f o c b r, g => by simp [marksF, Fo.app, marksF_app rs r g]
  | .leg k a m r, g => by simp [marksF, Fo.app, marksF_app rs r g]

/-- no text stands last -/
def NoText (O : List Mk) : Prop := ∀ m, O.getLast? = some m → m.kind ≠ 116
theorem NoText.snoc (O : List Mk) {m : Mk} (h : m.kind ≠ 116) : NoText (O ++ [m]) := fun x hx => by
  rw [List.getLast?_concat] at hx
  cases hx
  exact h
/-- a text more, of marks -/
def sayM (O : List Mk) (t : Wd) : List Mk :=
  if t = [] then O else match O.getLast? with
  | none => O ++ [⟨116, t, [], [], [], 0⟩]
  | some m => if m.kind = 116 then O.dropLast ++ [{ m with text := m.text ++ t }] else O ++ [⟨116, t, [], [], [], 0⟩]
theorem sayS_M (x : Sc) (t : Wd) : sayS x t = { x with out := sayM x.out t } := by
  unfold sayS sayM
  by_cases h : t = []
  · rw [if_pos h, if_pos h]
  · rw [if_neg h, if_neg h]
    cases x.out.getLast? with
    | none => rfl
    | some m =>
      dsimp only
      split <;> rfl
theorem sayM_nil (O : List Mk) : sayM O [] = O := rfl
theorem sayM_plain {O : List Mk} (h : NoText O) {t : Wd} (ht : t ≠ []) : sayM O t = O ++ [⟨116, t, [], [], [], 0⟩] := by
  unfold sayM
  rw [if_neg ht]
  cases hl : O.getLast? with
  | none => rfl
  | some m => exact if_neg (h m hl)
theorem sayM_text (O : List Mk) (u t : Wd) (ht : t ≠ []) : sayM (O ++ [⟨116, u, [], [], [], 0⟩]) t = O ++ [⟨116, u ++ t, [], [], [], 0⟩] := by
  unfold sayM
  rw [if_neg ht, List.getLast?_concat]
  dsimp only
  rw [if_pos rfl, List.dropLast_concat]
theorem sayM_say (O : List Mk) (a b : Wd) : sayM (sayM O a) b = sayM O (a ++ b) := by
  by_cases ha : a = []
  · subst ha; rfl
  by_cases hb : b = []
  · subst hb; rw [List.append_nil]; rfl
  have hab : a ++ b ≠ [] := by simp [ha]
  have h1 : sayM O a = (match O.getLast? with
    | none => O ++ [⟨116, a, [], [], [], 0⟩]
    | some m => if m.kind = 116 then O.dropLast ++ [{ m with text := m.text ++ a }] else O ++ [⟨116, a, [], [], [], 0⟩]) := if_neg ha
  have h2 : sayM O (a ++ b) = (match O.getLast? with
    | none => O ++ [⟨116, a ++ b, [], [], [], 0⟩]
    | some m => if m.kind = 116 then O.dropLast ++ [{ m with text := m.text ++ (a ++ b) }] else O ++ [⟨116, a ++ b, [], [], [], 0⟩]) := if_neg hab
  rw [h1, h2]
  cases O.getLast? with
  | none => exact sayM_text _ _ _ hb
  | some m =>
    dsimp only
    by_cases hm : m.kind = 116
    · rw [if_pos hm, if_pos hm]
      unfold sayM
      rw [if_neg hb, List.getLast?_concat]
      dsimp only
      rw [if_pos hm, List.dropLast_concat, List.append_assoc]
    · rw [if_neg hm, if_neg hm]
      exact sayM_text _ _ _ hb
/-- a text more, of a message -/
theorem say_marks (rs : List Int) (t : Wd) (ht : t ≠ []) : ∀ (f : Fo) (A : List Mk), (f = .nil → NoText A) → sayM (A ++ marksF rs f) t = A ++ marksF rs (f.addText t)
  | .nil, A, h => by
    rw [marksF, List.append_nil, sayM_plain (h rfl) ht]
    rfl
  | .text u .nil, A, h => sayM_text A u t ht
  | .text u (.text v r), A, h => by
    have := say_marks rs t ht (.text v r) (A ++ [⟨116, u, [], [], [], 0⟩]) (fun e => by cases e)
    simpa [marksF, Fo.addText] using this
  | .text u (.hash r), A, h => by
    have := say_marks rs t ht (.hash r) (A ++ [⟨116, u, [], [], [], 0⟩]) (fun e => by cases e)
    simpa [marksF, Fo.addText] using this
  | .text u (.put n a r), A, h => by
    have := say_marks rs t ht (.put n a r) (A ++ [⟨116, u, [], [], [], 0⟩]) (fun e => by cases e)
    simpa [marksF, Fo.addText] using this
  | .text u (.num n a r), A, h => by
    have := say_marks rs t ht (.num n a r) (A ++ [⟨116, u, [], [], [], 0⟩]) (fun e => by cases e)
    simpa [marksF, Fo.addText] using this
  | .text u (.br n a f o c bs r), A, h => by
    have := say_marks rs t ht (.br n a f o c bs r) (A ++ [⟨116, u, [], [], [], 0⟩]) (fun e => by cases e)
    simpa [marksF, Fo.addText] using this
  | .text u (.leg k a m r), A, h => by
    have := say_marks rs t ht (.leg k a m r) (A ++ [⟨116, u, [], [], [], 0⟩]) (fun e => by cases e)
    simpa [marksF, Fo.addText] using this
  | .hash r, A, h => by
    have := say_marks rs t ht r (A ++ [⟨35, [], [], [], [], 0⟩]) (fun _ => NoText.snoc A (by show 35 ≠ 116; decide))
    simpa [marksF, Fo.addText] using this
  | .put n a r, A, h => by
    have := say_marks rs t ht r (A ++ [⟨112, [], n, [], [], offI rs a⟩]) (fun _ => NoText.snoc A (by show 112 ≠ 116; decide))
    simpa [marksF, Fo.addText] using this
  | .num n a r, A, h => by
    have := say_marks rs t ht r (A ++ [⟨110, [], n, numW, [], offI rs a⟩]) (fun _ => NoText.snoc A (by show 110 ≠ 116; decide))
    simpa [marksF, Fo.addText] using this
  | .br n a f o c bs r, A, h => by
    have := say_marks rs t ht r ((A ++ ⟨40, [], n, formW f, o, offI rs a⟩ :: marksF rs bs) ++ [⟨41, [], [], [], [], offI rs c⟩]) (fun _ => NoText.snoc _ (by show 41 ≠ 116; decide))
    simpa [marksF, Fo.addText] using this
  | .leg k a m r, A, h => by
    have := say_marks rs t ht r ((A ++ ⟨91, k, [], [], [], offI rs a⟩ :: marksF rs m) ++ [⟨93, [], [], [], [], 0⟩]) (fun _ => NoText.snoc _ (by show 93 ≠ 116; decide))
    simpa [marksF, Fo.addText] using this
end Go.Proofs.YtdelpialeajajaaGreatDoor

/- The document's reader at texts and quotes: what the parser makes of code points. -/
namespace Go.Proofs.YtdelpialeajajaaGreatDoor
open Go Go.RowKit
set_option maxRecDepth 10000

/-- big bytes are said -/
theorem big_go (s : ByteArray) : ∀ (u rest : Wd) (x : Sc), x.err = 0 → s.data.toList.drop x.i = u ++ rest → (∀ c ∈ u, 128 ≤ c.toNat) → Goes s x { x with i := x.i + u.length, out := sayM x.out u }
  | [], rest, x, _, _, _ => Goes.refl x
  | c :: u, rest, x, h0, hd, hb => by
    have hlt : x.i < s.size := by
      apply Classical.byContradiction
      intro hc
      rw [List.drop_of_length_le (by simp; omega)] at hd
      simp at hd
    have hby : byteAt s x.i = some c := by
      unfold byteAt
      rw [← List.head?_drop, hd]
      rfl
    have hc : 128 ≤ c.toNat := hb c List.mem_cons_self
    have n1 : c ≠ 39 := fun q => by rw [q] at hc; revert hc; decide
    have n2 : c ≠ 123 := fun q => by rw [q] at hc; revert hc; decide
    have n3 : c ≠ 125 := fun q => by rw [q] at hc; revert hc; decide
    have n4 : c ≠ 35 := fun q => by rw [q] at hc; revert hc; decide
    have h1 : oneS s x = { x with i := x.i + 1, out := sayM x.out [c] } := by
      unfold oneS
      rw [hby]
      dsimp only
      unfold oneC
      rw [if_neg n1, if_neg n2, if_neg n3, if_neg (fun q => n4 q.1), sayS_M]
    have h2 := big_go s u rest { x with i := x.i + 1, out := sayM x.out [c] } h0 (by
      show s.data.toList.drop (x.i + 1) = _
      rw [← List.drop_drop, hd]
      rfl) (fun d hd => hb d (List.mem_cons_of_mem _ hd))
    have h3 := (h1 ▸ Goes.step h0 hlt : Goes s x { x with i := x.i + 1, out := sayM x.out [c] }).trans h2
    dsimp only at h3
    rw [sayM_say] at h3
    rw [List.length_cons, show x.i + (u.length + 1) = x.i + 1 + u.length by omega]
    exact h3

theorem quoteL_le : ∀ t : List Int, (quoteL t).2 ≤ t.length
  | [] => Nat.le_refl _
  | c :: t => by
    rw [quoteL.eq_def]
    dsimp only
    by_cases h : c = 39
    · rw [if_pos h]
      cases t with
      | nil => exact Nat.le_refl _
      | cons d u =>
        dsimp only
        have := quoteL_le u
        split
        · simp; omega
        · simp
    · rw [if_neg h]
      have := quoteL_le t
      simp
      omega

/-- a quote's first part -/
theorem quote_seg : ∀ (g t : List Int), (∀ r ∈ g, r ≠ 39) → quoteL (g ++ t) = (g ++ (quoteL t).1, g.length + (quoteL t).2)
  | [], t, _ => by simp
  | r :: g, t, h => by
    have ih := quote_seg g t (fun x hx => h x (List.mem_cons_of_mem _ hx))
    have hr : r ≠ 39 := h r List.mem_cons_self
    rw [List.cons_append, quoteL.eq_def]
    dsimp only
    rw [if_neg hr, ih]
    simp only [List.cons_append, List.length_cons]
    rw [show g.length + (quoteL t).2 + 1 = g.length + 1 + (quoteL t).2 by omega]
theorem enc_39 {r : Int} (h : OkR r) (hr : r = 39) : enc r = [39] := by
  rw [h.one (by omega), hr]
  rfl
theorem no_39 {r : Int} (h : OkR r) (hr : r ≠ 39) : ∀ c ∈ enc r, c ≠ 39 := by
  intro c hc q
  by_cases hs : r < 128
  · rw [h.one hs] at hc
    have := h.pos
    rw [List.mem_singleton] at hc
    have h2 := congrArg UInt8.toNat (hc.symm.trans q)
    rw [UInt8.toNat_ofNat', Nat.mod_eq_of_lt (by omega)] at h2
    have h3 : (39 : UInt8).toNat = 39 := rfl
    omega
  · have := (h.big (by omega)).2 c hc
    rw [q] at this
    revert this
    decide
theorem quote_bytes : ∀ (n : Nat) (t : List Int) (X : Sc), (∀ r ∈ t, OkR r) → (t.flatMap enc).length < n →
    quoteS n (t.flatMap enc) X = { X with i := X.i + ((t.take (quoteL t).2).flatMap enc).length, out := sayM X.out ((quoteL t).1.flatMap enc) }
  | 0, t, X, _, h => absurd h (Nat.not_lt_zero _)
  | n + 1, t, X, hok, hn => by
    obtain ⟨g, u, rfl, hg, hu⟩ : ∃ g u, t = g ++ u ∧ (∀ r ∈ g, r ≠ 39) ∧ (u = [] ∨ ∃ v, u = 39 :: v) := by
      refine ⟨t.takeWhile (fun r => r != 39), t.dropWhile (fun r => r != 39), List.takeWhile_append_dropWhile.symm, fun r hr => ?_, ?_⟩
      · have := List.all_takeWhile (l := t) (p := fun r : Int => r != 39)
        rw [List.all_eq_true] at this
        simpa using this r hr
      · cases hd : t.dropWhile (fun r => r != 39) with
        | nil => exact .inl rfl
        | cons a v =>
          refine .inr ⟨v, ?_⟩
          have := List.head?_dropWhile_not (fun r : Int => r != 39) t
          rw [hd] at this
          simp at this
          rw [this]
    have hgb : ∀ c ∈ g.flatMap enc, c ≠ 39 := fun c hc => by
      obtain ⟨r, hr, hc⟩ := List.mem_flatMap.1 hc
      exact no_39 (hok r (List.mem_append_left _ hr)) (hg r hr) c hc
    have hidx : (g.flatMap enc ++ u.flatMap enc).idxOf 39 = (g.flatMap enc).length + (u.flatMap enc).idxOf 39 := by
      rw [List.idxOf_append, if_neg (fun q => hgb 39 q rfl), Nat.add_comm]
    rw [quote_seg g u hg]
    rw [List.flatMap_append] at hn ⊢
    unfold quoteS
    dsimp only
    rcases hu with rfl | ⟨v, rfl⟩
    · have e0 : (quoteL []) = ([], 0) := rfl
      rw [List.flatMap_nil, List.append_nil, show List.idxOf (39 : UInt8) [] = 0 from rfl, Nat.add_zero] at hidx
      rw [e0, List.flatMap_nil, List.append_nil, hidx]
      dsimp only
      rw [if_neg (Nat.lt_irrefl _), List.take_length, Nat.add_zero, List.append_nil, List.take_length, sayS_M]
    · have h39 := enc_39 (hok 39 (by simp)) rfl
      have e1 : ((39 : Int) :: v).flatMap enc = 39 :: v.flatMap enc := by rw [List.flatMap_cons, h39]; rfl
      rw [e1] at hidx hn ⊢
      have e2 : ((39 : UInt8) :: v.flatMap enc).idxOf 39 = 0 := by simp
      rw [e2, Nat.add_zero] at hidx
      rw [hidx]
      have e3 : (g.flatMap enc ++ 39 :: v.flatMap enc).take (g.flatMap enc).length = g.flatMap enc := List.take_left
      have e4 : (g.flatMap enc ++ 39 :: v.flatMap enc).drop ((g.flatMap enc).length + 1) = v.flatMap enc := by
        rw [← List.drop_drop, List.drop_left]
        rfl
      rw [if_pos (by simp), e3, e4]
      cases v with
      | nil =>
        have e5 : quoteL [39] = ([], 1) := rfl
        rw [e5]
        simp only [List.flatMap_nil, List.head?_nil, List.append_nil]
        have e7 : (g ++ [39]).take (g.length + 1) = g ++ [39] := List.take_of_length_le (by simp)
        rw [if_neg (by simp), sayS_M, e7, List.flatMap_append, List.flatMap_cons, h39]
        simp [Nat.add_assoc]
      | cons d w =>
        have hd := hok d (by simp)
        have hhead : ((d :: w).flatMap enc).head? = some 39 ↔ d = 39 := by
          constructor
          · intro q
            apply Classical.byContradiction
            intro hne
            rw [List.flatMap_cons] at q
            cases he : enc d with
            | nil => exact hd.ne he
            | cons c y =>
              rw [he] at q
              simp at q
              exact no_39 hd hne c (by rw [he]; exact List.mem_cons_self) q
          · intro q
            rw [List.flatMap_cons, enc_39 hd q]
            rfl
        by_cases hq : d = 39
        · rw [if_pos (hhead.2 hq)]
          subst hq
          have e5 : quoteL (39 :: 39 :: w) = (39 :: (quoteL w).1, (quoteL w).2 + 2) := by
            rw [quoteL.eq_def]
            dsimp only
            rw [if_pos rfl, if_pos rfl]
          have e6 : ((39 : Int) :: w).flatMap enc = 39 :: w.flatMap enc := by rw [List.flatMap_cons, h39]; rfl
          rw [e5, e6, List.tail_cons]
          rw [e6] at hn
          simp only [List.length_append, List.length_cons] at hn
          rw [quote_bytes n w _ (fun r hr => hok r (by simp [hr])) (by omega)]
          have e7 : (g ++ 39 :: 39 :: w).take (g.length + ((quoteL w).2 + 2)) = g ++ 39 :: 39 :: w.take (quoteL w).2 := by
            rw [List.take_append, List.take_of_length_le (by omega)]
            congr 1
            rw [show g.length + ((quoteL w).2 + 2) - g.length = (quoteL w).2 + 2 by omega]
            rfl
          rw [e7]
          simp only [sayS_M, sayM_say, List.flatMap_append, List.flatMap_cons, h39, List.length_append, List.length_cons, List.length_nil, List.append_assoc, List.cons_append, List.nil_append]
          rw [Sc.mk.injEq]
          refine ⟨by omega, ?_, rfl, rfl, rfl⟩
          simp [List.append_assoc]
        · rw [if_neg (fun q => hq (hhead.1 q))]
          have e5 : quoteL (39 :: d :: w) = ([], 1) := by
            rw [quoteL.eq_def]
            dsimp only
            rw [if_pos rfl, if_neg hq]
          have e7 : (g ++ 39 :: d :: w).take (g.length + 1) = g ++ [39] := by
            rw [List.take_append, List.take_of_length_le (by omega)]
            congr 1
            rw [show g.length + 1 - g.length = 1 by omega]
            rfl
          rw [e5, e7]
          simp [sayS_M, List.flatMap_append, List.flatMap_cons, h39, Nat.add_assoc]

section
variable {s : ByteArray} {rs : List Int} (E : BpE s rs)
include E

theorem BpE.small1 {i k : Nat} (hk : k < 128) (h : nextL rs i = (k : Int)) : enc (nextL rs i) = [UInt8.ofNat k] := by
  have := (E.okn (bp_next h)).one (by omega)
  rw [this, h]
  rfl

omit E in
theorem textT_a {num : Bool} {i : Nat} (h : nextL rs i ≠ 39) : textT rs num i = (enc (nextL rs i), i + 1) := if_pos h
omit E in
theorem textT_b {num : Bool} {i : Nat} (h : nextL rs i = 39) (h2 : nextL rs (i + 1) = 39) : textT rs num i = (enc 39, i + 2) := by
  unfold textT
  rw [if_neg (fun q => q h), if_pos h2]
omit E in
theorem textT_c {num : Bool} {i : Nat} (h : nextL rs i = 39) (h2 : nextL rs (i + 1) ≠ 39) (h3 : specialL (nextL rs (i + 1)) num = false) : textT rs num i = (enc 39, i + 1) := by
  unfold textT
  rw [if_neg (fun q => q h), if_neg h2, if_pos h3]
omit E in
theorem textT_d {num : Bool} {i : Nat} (h : nextL rs i = 39) (h2 : nextL rs (i + 1) ≠ 39) (h3 : ¬ specialL (nextL rs (i + 1)) num = false) : textT rs num i = ((quoteL (rs.drop (i + 1))).1.flatMap enc, i + 1 + (quoteL (rs.drop (i + 1))).2) := by
  unfold textT
  rw [if_neg (fun q => q h), if_neg h2, if_neg h3]

/-- a text -/
theorem BpE.text {i : Nat} (num : Bool) (O : List Mk) (st : List Bool) (hnum : st.getLast?.getD false = num) (hi : i < rs.length) (h2 : nextL rs i ≠ 125) (h3 : nextL rs i ≠ 123) (h4 : ¬ (nextL rs i = 35 ∧ num = true)) :
    Goes s (stI rs i O st) (stI rs (textT rs num i).2 (sayM O (textT rs num i).1) st) ∧ (textT rs num i).1 ≠ [] ∧ i < (textT rs num i).2 ∧ (textT rs num i).2 ≤ rs.length := by
  have hlt := E.lts hi
  have hlt2 : (stI rs i O st).i < s.size := hlt
  have hnS : numS (stI rs i O st) = num := hnum
  have hstep := Goes.step (s := s) (x := stI rs i O st) rfl hlt
  refine ⟨?_, ?_, textT_lt rs num i, ?_⟩
  · by_cases h39 : nextL rs i = 39
    · have hb : byteAt s (stI rs i O st).i = some 39 := (E.byte i 39 (by decide)).2 h39
      have ho : oneS s (stI rs i O st) = apoS s (stI rs i O st) num := by
        unfold oneS
        rw [hb]
        dsimp only
        unfold oneC
        rw [if_pos rfl, hnS]
      rw [ho] at hstep
      refine hstep.trans ?_
      have o1 : offI rs i + 1 = offI rs (i + 1) := (E.off1 (k := 39) (by decide) h39).symm
      have hr : s.data.toList.drop ((stI rs i O st).i + 1) = (rs.drop (i + 1)).flatMap enc := by rw [stI_i, o1, E.drop]
      have hd : ∀ k, k < 128 → (((rs.drop (i + 1)).flatMap enc).head? = some (UInt8.ofNat k) ↔ nextL rs (i + 1) = (k : Int)) := fun k hk => by
        have := E.byte (i + 1) k hk
        unfold byteAt at this
        rw [← List.head?_drop, E.drop] at this
        exact this
      unfold apoS
      dsimp only
      rw [hr]
      have hlone : loneB ((rs.drop (i + 1)).flatMap enc) num = true ↔ nextL rs (i + 1) ≠ 39 ∧ specialL (nextL rs (i + 1)) num = false := by
        have d1 := hd 39 (by decide)
        have d2 := hd 123 (by decide)
        have d3 := hd 125 (by decide)
        have d4 := hd 35 (by decide)
        have hsp : specialL (nextL rs (i + 1)) num = false ↔ nextL rs (i + 1) ≠ 123 ∧ nextL rs (i + 1) ≠ 125 ∧ ¬ (nextL rs (i + 1) = 35 ∧ num = true) := by
          unfold specialL
          cases num <;> simp
        rw [hsp]
        cases hl : (rs.drop (i + 1)).flatMap enc with
        | nil =>
          rw [hl] at d1 d2 d3 d4
          exact ⟨fun _ => ⟨fun q => (by cases d1.2 q), fun q => (by cases d2.2 q), fun q => (by cases d3.2 q), fun q => (by cases d4.2 q.1)⟩, fun _ => rfl⟩
        | cons c t =>
          rw [hl] at d1 d2 d3 d4
          simp only [List.head?_cons, Option.some.injEq] at d1 d2 d3 d4
          unfold loneB
          simp only [Bool.and_eq_true, Bool.or_eq_true, bne_iff_ne, ne_eq, Bool.not_eq_true', Bool.not_eq_eq_eq_not, Bool.not_true]
          have d1' : c = 39 ↔ nextL rs (i + 1) = 39 := d1
          have d2' : c = 123 ↔ nextL rs (i + 1) = 123 := d2
          have d3' : c = 125 ↔ nextL rs (i + 1) = 125 := d3
          have d4' : c = 35 ↔ nextL rs (i + 1) = 35 := d4
          rw [d1', d2', d3', d4']
          cases num <;> simp
      by_cases hA : nextL rs (i + 1) = 39
      · have o2 : offI rs i + 2 = offI rs (i + 2) := by
          have q : offI rs (i + 2) = offI rs (i + 1) + 1 := E.off1 (i := i + 1) (k := 39) (by decide) hA
          rw [q, ← o1]
        have e39 := enc_39 (E.okn (bp_next (k := 39) hA)) hA
        rw [hA] at e39
        rw [textT_b h39 hA, if_neg (fun q => (hlone.1 q).1 hA), if_pos (show ((rs.drop (i + 1)).flatMap enc).head? = some 39 from (hd 39 (by decide)).2 hA), sayS_M, e39]
        unfold stI
        rw [o2]
        exact .refl _
      · have e39 := enc_39 (E.okn hi) h39
        rw [h39] at e39
        by_cases hB : specialL (nextL rs (i + 1)) num = false
        · rw [textT_c h39 hA hB, if_pos (hlone.2 ⟨hA, hB⟩), sayS_M, e39]
          unfold stI
          rw [o1]
          exact .refl _
        · rw [textT_d h39 hA hB, if_neg (fun q => hB (hlone.1 q).2), if_neg (show ¬ ((rs.drop (i + 1)).flatMap enc).head? = some 39 from fun q => hA ((hd 39 (by decide)).1 q)), quote_bytes _ _ _ (E.ok_drop) (Nat.lt_succ_self _)]
          unfold stI
          dsimp only
          rw [o1]
          have o3 : offI rs (i + 1) + (((rs.drop (i + 1)).take (quoteL (rs.drop (i + 1))).2).flatMap enc).length = offI rs (i + 1 + (quoteL (rs.drop (i + 1))).2) := by
            have e : rs.take (i + 1 + (quoteL (rs.drop (i + 1))).2) = rs.take (i + 1) ++ (rs.drop (i + 1)).take (quoteL (rs.drop (i + 1))).2 := by rw [List.take_add]
            unfold offI
            rw [e, List.flatMap_append, List.length_append]
          rw [o3]
          exact .refl _
    · rw [textT_a h39]
      rcases (E.okn hi).cases with ⟨k, hk, e, e2⟩ | ⟨hb, c, u, e2, hc⟩
      · have hby : byteAt s (stI rs i O st).i = some (UInt8.ofNat k) := (E.byte i k hk).2 e
        have inj : ∀ m : Nat, m < 128 → (UInt8.ofNat k = UInt8.ofNat m ↔ k = m) := fun m hm => by
          constructor
          · intro q
            have := congrArg UInt8.toNat q
            rw [UInt8.toNat_ofNat', UInt8.toNat_ofNat', Nat.mod_eq_of_lt (by omega), Nat.mod_eq_of_lt (by omega)] at this
            exact this
          · intro q; rw [q]
        have ho : oneS s (stI rs i O st) = stI rs (i + 1) (sayM O (enc (nextL rs i))) st := by
          unfold oneS
          rw [hby]
          dsimp only
          unfold oneC
          rw [if_neg (fun q => h39 (by have := (inj 39 (by decide)).1 q; omega)), if_neg (fun q => h3 (by have := (inj 123 (by decide)).1 q; omega)), if_neg (fun q => h2 (by have := (inj 125 (by decide)).1 q; omega)),
            if_neg (fun q => h4 ⟨by have := (inj 35 (by decide)).1 q.1; omega, by rw [← hnS]; exact q.2⟩), sayS_M, e2]
          unfold stI
          rw [E.off1 hk e]
        rw [← ho]
        exact hstep
      · have hbb : ∀ d ∈ enc (nextL rs i), 128 ≤ d.toNat := ((E.okn hi).big hb).2
        have := big_go s (enc (nextL rs i)) ((rs.drop (i + 1)).flatMap enc) (stI rs i O st) rfl (by rw [stI_i, E.drop, bp_drop hi, List.flatMap_cons]) hbb
        unfold stI at this ⊢
        rw [offI_succ hi]
        exact this
  · unfold textT
    split
    · exact (E.okn hi).ne
    next h39 =>
    have h39 : nextL rs i = 39 := Classical.not_not.1 h39
    have e39 := enc_39 (E.okn hi) h39
    rw [h39] at e39
    split
    · rw [e39]; simp
    split
    · rw [e39]; simp
    next hA hB =>
    have hlt2 : i + 1 < rs.length := by
      apply Classical.byContradiction
      intro hc
      rw [bp_end (by omega)] at hB
      cases num <;> exact hB rfl
    show (quoteL (rs.drop (i + 1))).1.flatMap enc ≠ []
    rw [bp_drop hlt2, quoteL.eq_def]
    dsimp only
    rw [if_neg hA]
    simp only [List.flatMap_cons]
    intro q
    exact (E.okn hlt2).ne (List.append_eq_nil_iff.1 q).1
  · unfold textT
    split
    · exact hi
    split
    · next h => have := bp_next (k := 39) h; show i + 2 ≤ _; omega
    split
    · exact hi
    · have := quoteL_le (rs.drop (i + 1))
      simp only [List.length_drop] at this
      show i + 1 + _ ≤ _
      omega
end
end Go.Proofs.YtdelpialeajajaaGreatDoor

/- The document's reader is the program's parser: arguments, branches, messages, patterns. -/
namespace Go.Proofs.YtdelpialeajajaaGreatDoor
open Go Go.RowKit
set_option maxRecDepth 10000

/-- what stands behind a branch's end -/
def tailS (s : ByteArray) (num : Bool) (Y : Sc) : Sc :=
  if byteAt s Y.i = some 125 then { Y with out := Y.out ++ [⟨41, [], [], [], [], Y.i⟩], i := Y.i + 1 } else branchS s Y num
theorem tailS_shut {s : ByteArray} {num : Bool} {Y : Sc} (h : byteAt s Y.i = some 125) : tailS s num Y = { Y with out := Y.out ++ [⟨41, [], [], [], [], Y.i⟩], i := Y.i + 1 } := if_pos h
theorem tailS_more {s : ByteArray} {num : Bool} {Y : Sc} (h : ¬ byteAt s Y.i = some 125) : tailS s num Y = branchS s Y num := if_neg h
theorem branchS_ok {s : ByteArray} {x Y U : Sc} {num : Bool} (h0 : x.err = 0) (hY : needsS s (blanksS s (branchA s x num)) 123 = Y) (hU : (if 6 < Y.opn.length + 2 then faultS Y 4 (blanksS s (branchA s x num)).i else Y) = U) :
    branchS s x num = { U with opn := U.opn ++ [num], out := U.out ++ [⟨91, branchT s x num, [], [], [], x.i⟩] } := by
  subst hY
  subst hU
  unfold branchS
  rw [if_neg (fun q => q h0)]
theorem Bad.opn {e a : Nat} {x : Sc} (h : Bad e a x) (O : List Mk) (st : List Bool) : Bad e a { x with opn := st, out := O } := ⟨h.err, h.ne, h.pl⟩
theorem behind_tail (s : ByteArray) (x : Sc) : behindS s x = tailS s (numS x) (blanksS s { x with opn := x.opn.dropLast }) := rfl

/-- a parser of messages is the document's reader -/
def MsgSim (s : ByteArray) (rs : List Int) (m : MsgP) (d : Nat) : Prop :=
  ∀ (num : Bool) (i : Nat) (O : List Mk) (st : List Bool), st.length = d → st.getLast?.getD false = num → NoText O → i ≤ rs.length →
    match m num i with
    | .error (e, a) => Falls s rs (stI rs i O st) e a
    | .ok (f, j) => Goes s (stI rs i O st) (stI rs j (O ++ marksF rs f) st) ∧ i ≤ j ∧ j ≤ rs.length ∧ (nextL rs j = -1 ∨ nextL rs j = 125)

/-- the messages one deeper -/
structure SubM (s : ByteArray) (rs : List Int) (sub : Option MsgP) (d : Nat) : Prop where
  no : sub = none → 6 < d + 2
  yes : ∀ m, sub = some m → ¬ 6 < d + 2 ∧ MsgSim s rs m (d + 1)

section
variable {s : ByteArray} {rs : List Int} (E : BpE s rs)
include E

theorem BpE.neg {i : Nat} (hi : i ≤ rs.length) (h : nextL rs i = -1) : i = rs.length := by
  apply Classical.byContradiction
  intro hc
  have := (E.okn (i := i) (by omega)).pos
  omega

/-- a branch -/
theorem BpE.leg {sub : Option MsgP} {st : List Bool} (hS : SubM s rs sub st.length) (num : Bool) {i : Nat} (hi : i ≤ rs.length) (O : List Mk) :
    match legP rs sub num i with
    | .error (e, a) => Falls s rs (branchS s (stI rs i O st) num) e a
    | .ok (f, j) => f.len = 1 ∧ Goes s (branchS s (stI rs i O st) num) (tailS s num (stI rs j (O ++ marksF rs f) st)) ∧ i < j ∧ j ≤ rs.length := by
  obtain ⟨Y, hY⟩ : ∃ Y, needsS s (blanksS s (branchA s (stI rs i O st) num)) 123 = Y := ⟨_, rfl⟩
  obtain ⟨U, hU⟩ : ∃ U, (if 6 < Y.opn.length + 2 then faultS Y 4 (blanksS s (branchA s (stI rs i O st) num)).i else Y) = U := ⟨_, rfl⟩
  have hB : branchS s (stI rs i O st) num = _ := branchS_ok rfl hY hU
  have hbad : ∀ e a, Bad e a Y → Bad e a (branchS s (stI rs i O st) num) := fun e a h => by
    rw [hB]
    refine Bad.opn ?_ _ _
    rw [← hU]
    split
    · exact h.fault _ _
    · exact h
  unfold legP
  rcases E.key num hi O st with ⟨e, a, h1, h2, h3⟩ | ⟨k, j, h1, h2, h3, h4, h5⟩
  · rw [h1, then_error]
    refine Bad.falls (hbad _ _ ?_) h2
    rw [← hY]
    exact (h3.blanks s).needs s _
  · rw [h1, then_ok]
    rw [h5, E.blanks] at hY hU
    have hse := E.skip_end h3
    have hsl := skipL_le rs j
    rcases E.needs (skipL rs j) 123 (by decide) O st with ⟨n1, n2, n3⟩ | ⟨n1, n3⟩
    · have hYe : Y = stI rs (skipL rs j + 1) O st := by rw [← hY]; exact n3
      subst hYe
      rw [show wantP rs 123 (skipL rs j) = .ok ((), skipL rs j + 1) from if_pos n1, then_ok]
      cases sub with
      | none =>
        refine Bad.falls (a := skipL rs j) ?_ hse
        rw [hB]
        refine Bad.opn ?_ _ _
        rw [← hU, if_pos (show 6 < (stI rs (skipL rs j + 1) O st).opn.length + 2 from hS.no rfl)]
        exact ⟨rfl, by decide, rfl⟩
      | some m =>
        obtain ⟨y1, y2⟩ := hS.yes m rfl
        rw [if_neg (show ¬ 6 < (stI rs (skipL rs j + 1) O st).opn.length + 2 from y1)] at hU
        rw [← hU, h4] at hB
        have hBe : branchS s (stI rs i O st) num = stI rs (skipL rs j + 1) (O ++ [⟨91, k, [], [], [], offI rs i⟩]) (st ++ [num]) := hB
        rw [hBe]
        have hm := y2 num (skipL rs j + 1) (O ++ [⟨91, k, [], [], [], offI rs i⟩]) (st ++ [num]) (by simp) (by simp) (NoText.snoc O (by show 91 ≠ 116; decide)) n2
        show (match (m num (skipL rs j + 1)).then (fun f q => (wantP rs 125 q).then fun _ z => (.ok (Fo.leg k i f .nil, skipL rs z) : PRes Fo)) with
          | .error (e, a) => _
          | .ok (f, j) => _)
        cases hmm : m num (skipL rs j + 1) with
        | error e =>
          rw [hmm] at hm
          exact hm
        | ok x =>
          obtain ⟨f, q⟩ := x
          rw [hmm] at hm
          obtain ⟨g1, g2, g3, g4⟩ := hm
          rw [then_ok]
          rcases g4 with g4 | g4
          · have hq := E.neg g3 g4
            rw [show wantP rs 125 q = .error (3, q) from if_neg (by rw [g4]; decide), then_error]
            refine ⟨g3, _, g1, .inr ⟨rfl, ?_, by simp [stI], rfl, hq⟩⟩
            show s.size ≤ offI rs q
            rw [E.size, hq]
            exact Nat.le_refl _
          · have hq := bp_next (k := 125) g4
            rw [show wantP rs 125 q = .ok ((), q + 1) from if_pos g4, then_ok]
            refine ⟨rfl, ?_, by have := skipL_le rs (q + 1); omega, E.skip_end (by omega)⟩
            refine g1.trans ((Goes.step rfl (E.lts hq)).trans ?_)
            have hby : byteAt s (stI rs q (O ++ [⟨91, k, [], [], [], offI rs i⟩] ++ marksF rs f) (st ++ [num])).i = some 125 := (E.byte q 125 (by decide)).2 g4
            have ho : oneS s (stI rs q (O ++ [⟨91, k, [], [], [], offI rs i⟩] ++ marksF rs f) (st ++ [num])) = tailS s num (stI rs (skipL rs (q + 1)) (O ++ marksF rs (.leg k i f .nil)) st) := by
              unfold oneS
              rw [hby]
              dsimp only
              unfold oneC
              rw [if_neg (by decide), if_neg (by decide), if_pos rfl, if_neg (by simp [stI]), behind_tail]
              have e1 : numS { stI rs q (O ++ [⟨91, k, [], [], [], offI rs i⟩] ++ marksF rs f) (st ++ [num]) with i := (stI rs q (O ++ [⟨91, k, [], [], [], offI rs i⟩] ++ marksF rs f) (st ++ [num])).i + 1, out := (stI rs q (O ++ [⟨91, k, [], [], [], offI rs i⟩] ++ marksF rs f) (st ++ [num])).out ++ [⟨93, [], [], [], [], 0⟩] } = num := by
                unfold numS stI
                simp
              rw [e1]
              congr 1
              have e2 := E.blanks (q + 1) (O ++ marksF rs (.leg k i f .nil)) st
              rw [← e2]
              congr 1
              unfold stI
              dsimp only
              rw [Sc.mk.injEq]
              refine ⟨(E.off1 (k := 125) (by decide) g4).symm, ?_, by simp, rfl, rfl⟩
              simp [marksF]
            rw [ho]
            exact .refl _
    · rw [show wantP rs 123 (skipL rs j) = .error (3, skipL rs j) from if_neg n1, then_error]
      refine Bad.falls (hbad _ _ ?_) hse
      rw [← hY]
      exact n3

/-- branches -/
theorem BpE.legs {sub : Option MsgP} {st : List Bool} (hS : SubM s rs sub st.length) (num : Bool) (O : List Mk) : ∀ (n : Nat) (acc : Fo) (i : Nat) (X : Sc), i ≤ rs.length → rs.length < i + n →
    ((acc = .nil ∧ X = branchS s (stI rs i O st) num) ∨ (acc.len ≠ 0 ∧ X = tailS s num (stI rs i (O ++ marksF rs acc) st))) →
    match legsP rs sub num n acc i with
    | .error (e, a) => Falls s rs X e a
    | .ok (bs, q) => nextL rs q = 125 ∧ Goes s X (stI rs (q + 1) (O ++ marksF rs bs ++ [⟨41, [], [], [], [], offI rs q⟩]) st) ∧ i ≤ q ∧ q + 1 ≤ rs.length
  | 0, acc, i, X, hi, hn, _ => by omega
  | n + 1, acc, i, X, hi, hn, hX => by
    rw [legsP]
    by_cases hc : nextL rs i = 125 ∧ acc.len ≠ 0
    · rw [if_pos hc]
      have hl := bp_next (k := 125) hc.1
      rcases hX with ⟨rfl, _⟩ | ⟨_, rfl⟩
      · exact absurd rfl hc.2
      · refine ⟨hc.1, ?_, Nat.le_refl _, hl⟩
        rw [tailS_shut (Y := stI rs i (O ++ marksF rs acc) st) ((E.byte i 125 (by decide)).2 hc.1)]
        unfold stI
        dsimp only
        rw [E.off1 (k := 125) (by decide) hc.1]
        exact .refl _
    · rw [if_neg hc]
      have hXb : X = branchS s (stI rs i (O ++ marksF rs acc) st) num := by
        rcases hX with ⟨rfl, rfl⟩ | ⟨h0, rfl⟩
        · rw [marksF, List.append_nil]
        · exact tailS_more (Y := stI rs i (O ++ marksF rs acc) st) (fun q => hc ⟨(E.byte i 125 (by decide)).1 q, h0⟩)
      subst hXb
      have hg := E.leg hS num hi (O ++ marksF rs acc)
      cases hl : legP rs sub num i with
      | error e =>
        rw [hl] at hg
        rw [then_error]
        exact hg
      | ok x =>
        obtain ⟨f, j⟩ := x
        rw [hl] at hg
        obtain ⟨g0, g1, g2, g3⟩ := hg
        rw [then_ok]
        have ih := BpE.legs hS num O n (acc.app f) j (tailS s num (stI rs j (O ++ marksF rs (acc.app f)) st)) g3 (by omega) (.inr ⟨by rw [Fo.len_app]; omega, rfl⟩)
        rw [marksF_app, ← List.append_assoc] at ih
        cases hl2 : legsP rs sub num n (acc.app f) j with
        | error e =>
          rw [hl2] at ih
          exact Falls.back g1 ih
        | ok x =>
          obtain ⟨bs, q⟩ := x
          rw [hl2] at ih
          exact ⟨ih.1, g1.trans ih.2.1, by have := ih.2.2.1; omega, ih.2.2.2⟩
end

theorem place_kinds (w : Wd) : (placeL kindsL w = 0 ∧ w = numW) ∨ (w ≠ numW ∧ ∃ f, formL w = some f ∧ f < 3 ∧ formW f = w ∧ 0 < placeL kindsL w ∧ (decide (placeL kindsL w < 3)) = decide (f ≠ 0)) ∨ (w ≠ numW ∧ formL w = none ∧ placeL kindsL w < 0) := by
  by_cases h0 : w = numW
  · subst h0
    exact .inl ⟨by decide, rfl⟩
  refine .inr ?_
  by_cases h1 : w = selW
  · subst h1
    exact .inl ⟨h0, 0, by decide, by decide, rfl, by decide, by decide⟩
  by_cases h2 : w = pluW
  · subst h2
    exact .inl ⟨h0, 1, by decide, by decide, rfl, by decide, by decide⟩
  by_cases h3 : w = ordW
  · subst h3
    exact .inl ⟨h0, 2, by decide, by decide, rfl, by decide, by decide⟩
  refine .inr ⟨h0, ?_, ?_⟩
  · unfold formL
    rw [if_neg h1, if_neg h2, if_neg h3]
  · unfold placeL
    have hn : w ∉ kindsL := by
      intro q
      have : w = numW ∨ w = pluW ∨ w = ordW ∨ w = selW := by simpa [kindsL, numW, pluW, ordW, selW] using q
      rcases this with q | q | q | q <;> contradiction
    rw [if_neg (fun q => hn (List.idxOf_lt_length_iff.1 q))]
    decide

section
variable {s : ByteArray} {rs : List Int} (E : BpE s rs)
include E
theorem BpE.offw (i : Nat) : offAt s (offI rs i) = offB rs i := by
  unfold offAt offB
  have := E.word [111, 102, 102, 115, 101, 116, 58] (by decide) i
  rw [decide_eq_decide]
  exact this
omit E in
theorem bp_off7 {i : Nat} (h : offB rs i = true) : Small rs i 7 := by
  unfold offB at h
  rw [decide_eq_true_eq] at h
  intro j hj
  have h2 : nextL rs (i + j) = offW.getD j (-1) := by
    unfold nextL
    rw [List.getD_eq_getElem?_getD, ← List.getElem?_drop, ← h, List.getD_eq_getElem?_getD, List.getElem?_take, if_pos hj]
  rw [h2]
  have : ∀ j : Fin 7, 0 ≤ offW.getD j.1 (-1) ∧ offW.getD j.1 (-1) < 128 := by decide
  exact this ⟨j, hj⟩

/-- an argument's branches -/
theorem BpE.brs {sub : Option MsgP} {st : List Bool} (hS : SubM s rs sub st.length) {form a : Nat} (nm : Wd) (ha : form < 3) {i : Nat} (hi : i ≤ rs.length) (O : List Mk) :
    match (offP rs form i).then fun o l => (legsP rs sub (decide (form ≠ 0)) (rs.length + 1) .nil l).then fun bs q => (wantP rs 125 q).then fun _ z => (.ok (Fo.br nm a form o q bs .nil, z) : PRes Fo) with
    | .error (e, p) => Falls s rs (brS s nm (formW form) (offI rs a) (decide (form ≠ 0)) (stI rs i O st)) e p
    | .ok (f, j) => Goes s (brS s nm (formW form) (offI rs a) (decide (form ≠ 0)) (stI rs i O st)) (stI rs j (O ++ marksF rs f) st) ∧ i < j ∧ j ≤ rs.length := by
  -- behind the offset
  have tl : ∀ (o : Wd) (l : Nat), l ≤ rs.length → i ≤ l →
      match (legsP rs sub (decide (form ≠ 0)) (rs.length + 1) .nil l).then fun bs q => (wantP rs 125 q).then fun _ z => (.ok (Fo.br nm a form o q bs .nil, z) : PRes Fo) with
      | .error (e, p) => Falls s rs (branchS s (stI rs l (O ++ [⟨40, [], nm, formW form, o, offI rs a⟩]) st) (decide (form ≠ 0))) e p
      | .ok (f, j) => Goes s (branchS s (stI rs l (O ++ [⟨40, [], nm, formW form, o, offI rs a⟩]) st) (decide (form ≠ 0))) (stI rs j (O ++ marksF rs f) st) ∧ i < j ∧ j ≤ rs.length := by
    intro o l hl hil
    have hg := E.legs hS (decide (form ≠ 0)) (O ++ [⟨40, [], nm, formW form, o, offI rs a⟩]) (rs.length + 1) .nil l _ hl (by omega) (.inl ⟨rfl, rfl⟩)
    cases hl2 : legsP rs sub (decide (form ≠ 0)) (rs.length + 1) .nil l with
    | error e =>
      rw [hl2] at hg
      exact hg
    | ok x =>
      obtain ⟨bs, q⟩ := x
      rw [hl2] at hg
      obtain ⟨g1, g2, g3, g4⟩ := hg
      rw [then_ok, show wantP rs 125 q = .ok ((), q + 1) from if_pos g1, then_ok]
      refine ⟨?_, by omega, g4⟩
      have e : O ++ [⟨40, [], nm, formW form, o, offI rs a⟩] ++ marksF rs bs ++ [⟨41, [], [], [], [], offI rs q⟩] = O ++ marksF rs (.br nm a form o q bs .nil) := by simp [marksF]
      rw [← e]
      exact g2
  unfold offP
  by_cases hc : form ≠ 0 ∧ offB rs i = true
  · have hcs : (decide (form ≠ 0) && offAt s (stI rs i O st).i) = true := by
      rw [stI_i, E.offw, Bool.and_eq_true, decide_eq_true_eq]
      exact hc
    have h7 := bp_off7 hc.2
    have h7l : i + 7 ≤ rs.length := by rcases h7.lt with q | q <;> omega
    have hst : ({ stI rs i O st with i := (stI rs i O st).i + 7 } : Sc) = stI rs (i + 7) O st := by
      unfold stI
      rw [E.off_add 7 h7]
    have hse := E.skip_end h7l
    have hsl := skipL_le rs (i + 7)
    have hbr : brS s nm (formW form) (offI rs a) (decide (form ≠ 0)) (stI rs i O st) =
        branchS s { blanksS s (wholeS s (stI rs (skipL rs (i + 7)) O st)) with out := (blanksS s (wholeS s (stI rs (skipL rs (i + 7)) O st))).out ++ [⟨40, [], nm, formW form, wholeT s (offI rs (skipL rs (i + 7))), offI rs a⟩] } (decide (form ≠ 0)) := by
      unfold brS
      rw [if_pos hcs, if_pos hcs, hst, E.blanks, stI_i]
    rw [if_pos hc, hbr]
    rcases E.whole hse O st with ⟨e1, e2⟩ | ⟨e0, e1, e2, e3⟩
    · rw [e1, then_error, then_error]
      exact Bad.falls (((e2.blanks s).out _).branch s _) hse
    · rw [e1, then_ok, then_ok, e3, E.blanks, E.whT]
      exact tl _ _ (E.skip_end e2) (by have := skipL_le rs (skipL rs (i + 7) + wholeN rs (skipL rs (i + 7))); omega)
  · have hcs : ¬ (decide (form ≠ 0) && offAt s (stI rs i O st).i) = true := by
      rw [stI_i, E.offw, Bool.and_eq_true, decide_eq_true_eq]
      exact hc
    have hbr : brS s nm (formW form) (offI rs a) (decide (form ≠ 0)) (stI rs i O st) =
        branchS s (stI rs i (O ++ [⟨40, [], nm, formW form, [48], offI rs a⟩]) st) (decide (form ≠ 0)) := by
      unfold brS
      rw [if_neg hcs, if_neg hcs]
      rfl
    rw [if_neg hc, hbr, then_ok]
    exact tl _ _ hi (Nat.le_refl _)

/-- an argument -/
theorem BpE.arg {sub : Option MsgP} {st : List Bool} (hS : SubM s rs sub st.length) {i : Nat} (h123 : nextL rs i = 123) (O : List Mk) :
    match argP rs sub i with
    | .error (e, a) => Falls s rs (braceS s (stI rs i O st)) e a
    | .ok (f, j) => Goes s (braceS s (stI rs i O st)) (stI rs j (O ++ marksF rs f) st) ∧ i < j ∧ j ≤ rs.length := by
  have hi := bp_next (k := 123) h123
  have h1 : ({ stI rs i O st with i := (stI rs i O st).i + 1 } : Sc) = stI rs (i + 1) O st := by
    unfold stI
    rw [E.off1 (k := 123) (by decide) h123]
  have l1 := skipL_le rs (i + 1)
  have b1 := E.skip_end (i := i + 1) (by omega)
  unfold argP braceS
  rw [show wantP rs 123 i = .ok ((), i + 1) from if_pos h123, then_ok, h1, E.blanks]
  dsimp only
  rw [show (stI rs (skipL rs (i + 1)) O st).i = offI rs (skipL rs (i + 1)) from rfl, E.nmT]
  rcases E.name b1 O st with ⟨e0, e1, e2⟩ | ⟨e0, e1, e2, e3⟩
  · rw [e1, then_error]
    have hb := e2.blanks s
    rw [if_pos (by rw [hb.err]; exact hb.ne)]
    exact hb.falls b1
  rw [e1, then_ok, e3, E.blanks]
  obtain ⟨B, hB⟩ : ∃ B, skipL rs (skipL rs (i + 1) + nameN rs (skipL rs (i + 1))) = B := ⟨_, rfl⟩
  have l2 := skipL_le rs (skipL rs (i + 1) + nameN rs (skipL rs (i + 1)))
  have b2 := E.skip_end e2
  rw [hB] at l2 b2
  obtain ⟨nm, hnm⟩ : ∃ nm, pieceL rs (skipL rs (i + 1)) (nameN rs (skipL rs (i + 1))) = nm := ⟨_, rfl⟩
  rw [hB, hnm, if_neg (show ¬ (stI rs B O st).err ≠ 0 from fun q => q rfl)]
  by_cases h44 : nextL rs B = 44
  · rw [if_neg (fun q => q h44), if_neg (show ¬ byteAt s (stI rs B O st).i ≠ some 44 from fun q => q ((E.byte B 44 (by decide)).2 h44))]
    have hBl := bp_next (k := 44) h44
    have h2 : ({ stI rs B O st with i := (stI rs B O st).i + 1 } : Sc) = stI rs (B + 1) O st := by
      unfold stI
      rw [E.off1 (k := 44) (by decide) h44]
    rw [h2, E.blanks]
    have l3 := skipL_le rs (B + 1)
    have b3 := E.skip_end (i := B + 1) (by omega)
    obtain ⟨C, hC⟩ : ∃ C, skipL rs (B + 1) = C := ⟨_, rfl⟩
    rw [hC] at l3 b3 ⊢
    unfold howS
    dsimp only
    rw [show (stI rs C O st).i = offI rs C from rfl, E.nmT]
    obtain ⟨w, hw⟩ : ∃ w, pieceL rs C (nameN rs C) = w := ⟨_, rfl⟩
    rcases E.name b3 O st with ⟨e4, e5, e6⟩ | ⟨e4, e5, e6, e7⟩
    · rw [e5, then_error]
      have hw0 : w = [] := by rw [← hw, e4]; unfold pieceL; simp
      rw [hw, hw0, if_pos (by decide)]
      exact (e6.fault _ _).falls b3
    rw [e5, then_ok, e7, hw, E.blanks]
    have l4 := skipL_le rs (C + nameN rs C)
    have b4 := E.skip_end e6
    obtain ⟨D, hD⟩ : ∃ D, skipL rs (C + nameN rs C) = D := ⟨_, rfl⟩
    rw [hD] at l4 b4 ⊢
    rcases place_kinds w with ⟨p1, p2⟩ | ⟨p0, form, p1, p2, p3, p4, p5⟩ | ⟨p0, p1, p2⟩
    · rw [if_pos p2, p1, if_neg (by decide), if_pos rfl]
      rcases E.needs D 125 (by decide) O st with ⟨n1, n2, n3⟩ | ⟨n1, n3⟩
      · rw [show wantP rs 125 D = .ok ((), D + 1) from if_pos n1, then_ok]
        have n3' : needsS s (stI rs D O st) 125 = stI rs (D + 1) O st := n3
        rw [n3', p2]
        exact ⟨.refl _, by omega, n2⟩
      · rw [show wantP rs 125 D = .error (3, D) from if_neg n1, then_error]
        have n3' : Bad 3 (offI rs D) (needsS s (stI rs D O st) 125) := n3
        exact (n3'.out _).falls b4
    · rw [if_neg p0, p1, if_neg (by omega), if_neg (by omega), p5, ← p3]
      dsimp only
      rcases E.needs D 44 (by decide) O st with ⟨n1, n2, n3⟩ | ⟨n1, n3⟩
      · rw [show wantP rs 44 D = .ok ((), D + 1) from if_pos n1, then_ok]
        have n3' : needsS s (stI rs D O st) 44 = stI rs (D + 1) O st := n3
        rw [n3', E.blanks]
        have l5 := skipL_le rs (D + 1)
        have hg := E.brs hS (a := i) nm p2 (E.skip_end n2) O
        split at hg
        · exact hg
        · exact ⟨hg.1, by omega, hg.2.2⟩
      · rw [show wantP rs 44 D = .error (3, D) from if_neg n1, then_error]
        have n3' : Bad 3 (offI rs D) (needsS s (stI rs D O st) 44) := n3
        exact ((n3'.blanks s).br s _ _ _ _).falls b4
    · rw [if_neg p0, p1, if_pos p2]
      exact Bad.falls (a := C) ⟨rfl, by decide, rfl⟩ b3
  · rw [if_pos h44, if_pos (show byteAt s (stI rs B O st).i ≠ some 44 from fun q => h44 ((E.byte B 44 (by decide)).1 q))]
    rcases E.needs B 125 (by decide) O st with ⟨n1, n2, n3⟩ | ⟨n1, n3⟩
    · rw [show wantP rs 125 B = .ok ((), B + 1) from if_pos n1, then_ok]
      have n3' : needsS s (stI rs B O st) 125 = stI rs (B + 1) O st := n3
      rw [n3']
      exact ⟨.refl _, by omega, n2⟩
    · rw [show wantP rs 125 B = .error (3, B) from if_neg n1, then_error]
      have n3' : Bad 3 (offI rs B) (needsS s (stI rs B O st) 125) := n3
      exact (n3'.out _).falls b2

/-- a message -/
theorem BpE.msg {sub : Option MsgP} {st : List Bool} (hS : SubM s rs sub st.length) {num : Bool} (hnum : st.getLast?.getD false = num) (O : List Mk) (hO : NoText O) : ∀ (n : Nat) (acc : Fo) (i : Nat), i ≤ rs.length → rs.length < i + n →
    match msgGo rs sub num n acc i with
    | .error (e, a) => Falls s rs (stI rs i (O ++ marksF rs acc) st) e a
    | .ok (f, j) => Goes s (stI rs i (O ++ marksF rs acc) st) (stI rs j (O ++ marksF rs f) st) ∧ i ≤ j ∧ j ≤ rs.length ∧ (nextL rs j = -1 ∨ nextL rs j = 125)
  | 0, acc, i, hi, hn => by omega
  | n + 1, acc, i, hi, hn => by
    rw [msgGo]
    by_cases h0 : nextL rs i = -1 ∨ nextL rs i = 125
    · rw [if_pos h0]
      exact ⟨.refl _, Nat.le_refl _, hi, h0⟩
    rw [if_neg h0]
    have hlt : i < rs.length := by
      apply Classical.byContradiction
      intro hc
      exact h0 (.inl (bp_end (by omega)))
    have hin := E.lts hlt
    -- go on behind a step
    have go : ∀ (acc2 : Fo) (j : Nat), Goes s (stI rs i (O ++ marksF rs acc) st) (stI rs j (O ++ marksF rs acc2) st) → i < j → j ≤ rs.length →
        match msgGo rs sub num n acc2 j with
        | .error (e, a) => Falls s rs (stI rs i (O ++ marksF rs acc) st) e a
        | .ok (f, j) => Goes s (stI rs i (O ++ marksF rs acc) st) (stI rs j (O ++ marksF rs f) st) ∧ i ≤ j ∧ j ≤ rs.length ∧ (nextL rs j = -1 ∨ nextL rs j = 125) := by
      intro acc2 j hg hij hj
      have ih := BpE.msg hS hnum O hO n acc2 j hj (by omega)
      cases hl : msgGo rs sub num n acc2 j with
      | error e =>
        rw [hl] at ih
        exact Falls.back hg ih
      | ok x =>
        rw [hl] at ih
        exact ⟨hg.trans ih.1, by have := ih.2.1; omega, ih.2.2⟩
    have hnS : numS (stI rs i (O ++ marksF rs acc) st) = num := hnum
    by_cases h1 : nextL rs i = 123
    · rw [if_pos h1]
      have hby : byteAt s (stI rs i (O ++ marksF rs acc) st).i = some 123 := (E.byte i 123 (by decide)).2 h1
      have ho : oneS s (stI rs i (O ++ marksF rs acc) st) = braceS s (stI rs i (O ++ marksF rs acc) st) := by
        unfold oneS
        rw [hby]
        dsimp only
        unfold oneC
        rw [if_neg (by decide), if_pos rfl]
      have hst : Goes s (stI rs i (O ++ marksF rs acc) st) (braceS s (stI rs i (O ++ marksF rs acc) st)) := ho ▸ Goes.step rfl hin
      have ha := E.arg hS h1 (O ++ marksF rs acc)
      cases hl : argP rs sub i with
      | error e =>
        rw [hl] at ha
        rw [then_error]
        exact Falls.back hst ha
      | ok x =>
        obtain ⟨f, j⟩ := x
        rw [hl] at ha
        rw [then_ok]
        refine go (acc.app f) j ?_ ha.2.1 ha.2.2
        rw [marksF_app, ← List.append_assoc]
        exact hst.trans ha.1
    rw [if_neg h1]
    by_cases h2 : nextL rs i = 35 ∧ num = true
    · rw [if_pos h2]
      have hby : byteAt s (stI rs i (O ++ marksF rs acc) st).i = some 35 := (E.byte i 35 (by decide)).2 h2.1
      refine go (acc.app (.hash .nil)) (i + 1) ?_ (Nat.lt_succ_self _) hlt
      have ho : oneS s (stI rs i (O ++ marksF rs acc) st) = stI rs (i + 1) (O ++ marksF rs (acc.app (.hash .nil))) st := by
        unfold oneS
        rw [hby]
        dsimp only
        unfold oneC
        rw [if_neg (by decide), if_neg (by decide), if_neg (by decide), if_pos ⟨rfl, hnS.trans h2.2⟩, marksF_app]
        unfold stI
        rw [Sc.mk.injEq]
        exact ⟨(E.off1 (k := 35) (by decide) h2.1).symm, by simp [marksF], rfl, rfl, rfl⟩
      rw [← ho]
      exact Goes.step rfl hin
    rw [if_neg h2]
    obtain ⟨t1, t2, t3, t4⟩ := E.text num (O ++ marksF rs acc) st hnum hlt (fun q => h0 (.inr q)) h1 h2
    refine go (acc.addText (textT rs num i).1) (textT rs num i).2 ?_ t3 t4
    rw [← say_marks rs _ t2 acc O (fun _ => hO)]
    exact t1

/-- a message, of all levels -/
theorem BpE.msgs : ∀ (n d : Nat), n + d = 5 → MsgSim s rs (msgP rs n) d
  | 0, d, hd => fun num i O st h1 h2 h3 h4 => by
    have hS : SubM s rs none st.length := ⟨fun _ => by omega, fun m q => by cases q⟩
    have := E.msg hS h2 O h3 (rs.length + 1) .nil i h4 (by omega)
    rw [marksF, List.append_nil] at this
    exact this
  | n + 1, d, hd => fun num i O st h1 h2 h3 h4 => by
    have ih := BpE.msgs n (d + 1) (by omega)
    have hS : SubM s rs (some (msgP rs n)) st.length := ⟨fun q => (by cases q), fun m q => by
      cases q
      exact ⟨by omega, by rw [h1]; exact ih⟩⟩
    have := E.msg hS h2 O h3 (rs.length + 1) .nil i h4 (by omega)
    rw [marksF, List.append_nil] at this
    exact this

/-- a pattern -/
theorem BpE.parse : match parseL rs with
    | .error (e, a) => Falls s rs startS e a
    | .ok (f, j) => Goes s startS ⟨s.size, marksF rs f, [], 0, 0⟩ := by
  have h := E.msgs 5 0 rfl false 0 [] [] rfl rfl (fun m q => by cases q) (Nat.zero_le _)
  have h0 : stI rs 0 [] [] = startS := rfl
  rw [h0] at h
  unfold parseL
  cases hl : msgP rs 5 false 0 with
  | error e =>
    rw [hl] at h
    exact h
  | ok x =>
    obtain ⟨f, j⟩ := x
    rw [hl] at h
    obtain ⟨g1, _, g3, g4⟩ := h
    rw [then_ok]
    rcases g4 with g4 | g4
    · rw [if_pos g4]
      have hj := E.neg g3 g4
      subst hj
      have e : stI rs rs.length ([] ++ marksF rs f) [] = ⟨s.size, marksF rs f, [], 0, 0⟩ := by
        unfold stI
        rw [← E.size, List.nil_append]
      rw [e] at g1
      exact g1
    · rw [if_neg (by rw [g4]; decide)]
      have hjl := bp_next (k := 125) g4
      refine Falls.back (g1.trans (Goes.step rfl (E.lts hjl))) ?_
      have hby : byteAt s (stI rs j ([] ++ marksF rs f) []).i = some 125 := (E.byte j 125 (by decide)).2 g4
      refine Bad.falls (a := j) ?_ g3
      unfold oneS
      rw [hby]
      dsimp only
      unfold oneC
      rw [if_neg (by decide), if_neg (by decide), if_pos rfl, if_pos (show (stI rs j ([] ++ marksF rs f) []).opn = [] from rfl)]
      exact ⟨rfl, by decide, rfl⟩
end
end Go.Proofs.YtdelpialeajajaaGreatDoor
