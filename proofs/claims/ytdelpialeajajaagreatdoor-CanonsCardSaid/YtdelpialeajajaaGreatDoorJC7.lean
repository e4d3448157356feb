import Derived.Test.YtdelpialeajajaaGreatDoorJC6
import Derived.OwnWalk
import Derived.Deep.QuietTactic
import Derived.BigQuiet
import Derived.Deep.DeepCutAuto

/- phrasesref.categories. -/
namespace Go.Proofs.YtdelpialeajajaaGreatDoor
open Go Go.RowKit
set_option maxRecDepth 10000

def catsL : List (List UInt8) := [[122, 101, 114, 111], [111, 110, 101], [116, 119, 111], [102, 101, 119], [109, 97, 110, 121], [111, 116, 104, 101, 114]]

def CatsPost (w : World) (e : Ending) (w' : World) : Prop :=
  ∃ v, e = .returned v ∧ w'.ownsRow w.heap.size 9 1 v 6 (catsL.map strv) ∧ Below w.heap.size w w'

theorem categories_any (w : World) : Calls Tryz.prog 45 #[] w (CatsPost w) := by
  go_enter Tryz.func45, Tryz.ntmps45
  go_wp2
  go_ret
  exact ⟨_, rfl, World.ownsRow_lit w _ 6 (Nat.le_refl _) (by decide) rfl, (Below.refl _ _).alloc (Nat.le_refl _) _⟩
end Go.Proofs.YtdelpialeajajaaGreatDoor

/- Walks of phrasesref's small functions on texts. -/
namespace Go.Proofs.YtdelpialeajajaaGreatDoor
open Go Go.RowKit

def numeralsL (l : List UInt8) : Bool := l.all isDig && !l.isEmpty

set_option maxHeartbeats 400000 in
theorem numerals_any (s : ByteArray) (w : World) (hs : s.size ≤ 9223372036854775807) :
    Calls Tryz.prog 184 #[.string s] w fun e w' => e = .returned (.bool (numeralsL s.data.toList)) ∧ w = w' := by
  go_enter Tryz.func184, Tryz.ntmps184
  go_wp2
  go_loop [3] (fun i => ∃ k : Nat, k ≤ s.size ∧ i = .int .i64 k ∧ (s.data.toList.take k).all isDig = true) (fun i => s.size - (intOf i).toNat)
  case atStart => exact ⟨0, by omega, rfl, by simp⟩
  case round =>
    obtain ⟨k, hk, rfl, hH⟩ := hrel
    by_cases hlt : k < s.size
    · by_cases hd : isDig s[k] = true
      · have h2 := (isDig_iff _).1 hd
        have hts := all_snoc hH hd
        rw [← take_snoc s k hlt] at hts
        go_wp2
        go_round
        case rel => exact ⟨k + 1, by omega, by go_num, hts⟩
        case measure => simp [intOf]; omega
      · have hd' : isDig s[k] = false := by simpa using hd
        have h2 := (isDig_false _).1 hd'
        have hfin : numeralsL s.data.toList = false := by simp [numeralsL, all_false_of s k hlt hd']
        go_wp2
        all_goals (go_ret; exact ⟨rfl, rfl⟩)
    · have hk' : k = s.size := by omega
      subst hk'
      have hfin : numeralsL s.data.toList = decide (0 < s.size) := by
        rw [take_all] at hH
        rw [numeralsL, hH, isEmpty_toList, Bool.true_and]
        by_cases h0 : s.size = 0
        · simp [h0]
        · simp [h0]; omega
      go_wp2
      go_ret
      exact ⟨rfl, rfl⟩

set_option maxHeartbeats 400000 in
theorem nought_any (s : ByteArray) (w : World) (hs : s.size ≤ 9223372036854775807) :
    Calls Tryz.prog 185 #[.string s] w fun e w' => e = .returned (.bool (s.data.toList.all (· == 48))) ∧ w = w' := by
  go_enter Tryz.func185, Tryz.ntmps185
  go_wp2
  go_loop [3] (fun i => ∃ k : Nat, k ≤ s.size ∧ i = .int .i64 k ∧ (s.data.toList.take k).all (· == 48) = true) (fun i => s.size - (intOf i).toNat)
  case atStart => exact ⟨0, by omega, rfl, by simp⟩
  case round =>
    obtain ⟨k, hk, rfl, hH⟩ := hrel
    by_cases hlt : k < s.size
    · by_cases hd : s[k] = 48
      · have h2 : ((s[k].toNat : Int) != 48) = false := by simp [hd]
        have hts := all_snoc (c := s[k]) hH (by simp [hd])
        rw [← take_snoc s k hlt] at hts
        go_wp2
        go_round
        case rel => exact ⟨k + 1, by omega, by go_num, hts⟩
        case measure => simp [intOf]; omega
      · have hfin : s.data.toList.all (· == 48) = false := all_false_of s k hlt (by simpa using hd)
        have h2 : ((s[k].toNat : Int) != 48) = true := by
          rw [bne_iff_ne]; intro h; exact hd (UInt8.toNat_inj.1 (by show s[k].toNat = 48; omega))
        go_wp2
        all_goals (go_ret; exact ⟨rfl, rfl⟩)
    · have hk' : k = s.size := by omega
      subst hk'
      rw [take_all] at hH
      go_wp2
      go_ret
      exact ⟨rfl, rfl⟩

theorem idxOf_hit (s : ByteArray) (c : UInt8) (k : Nat) (hk : k < s.size) (hd : s[k] = c) (h : k ≤ s.data.toList.idxOf c) : s.data.toList.idxOf c = k := by
  refine Nat.le_antisymm (Nat.le_of_not_lt fun hlt => ?_) h
  have := List.not_of_lt_findIdx (p := (· == c)) (xs := s.data.toList) (i := k) hlt
  rw [getElem_toList s k hk, hd] at this
  simp at this
theorem idxOf_miss (s : ByteArray) (c : UInt8) (k : Nat) (hk : k < s.size) (hd : s[k] ≠ c) (h : k ≤ s.data.toList.idxOf c) : k + 1 ≤ s.data.toList.idxOf c := by
  refine Nat.succ_le_of_lt (Nat.lt_of_le_of_ne h fun he => ?_)
  have hl : s.data.toList.findIdx (· == c) < s.data.toList.length := by rw [size_toList]; show s.data.toList.idxOf c < s.size; omega
  have := List.findIdx_getElem (xs := s.data.toList) (p := (· == c)) (w := hl)
  apply hd
  have e2 : s.data.toList[s.data.toList.findIdx (· == c)]'hl = s[k] := by
    rw [← getElem_toList s k hk]; congr 1; exact he.symm
  rw [e2] at this
  simpa using this

set_option maxHeartbeats 400000 in
theorem cut_any (s : ByteArray) (c : UInt8) (w : World) (hs : s.size ≤ 2000000000) :
    Calls Tryz.prog 103 #[.string s, .int .u8 c.toNat] w fun e w' =>
      e = .returned (.tuple #[.string ⟨(s.data.toList.take (s.data.toList.idxOf c)).toArray⟩, .string ⟨(s.data.toList.drop (s.data.toList.idxOf c + 1)).toArray⟩, .bool (decide (s.data.toList.idxOf c < s.size))]) ∧ ∃ n, w' = w.drewN n := by
  go_enter Tryz.func103, Tryz.ntmps103
  go_wp2
  go_loop [7] (fun i => ∃ k : Nat, k ≤ s.size ∧ i = .int .i64 k ∧ k ≤ s.data.toList.idxOf c) (fun i => s.size - (intOf i).toNat)
  case atStart => exact ⟨0, by omega, rfl, by omega⟩
  case round =>
    obtain ⟨k, hk, rfl, hH⟩ := hrel
    by_cases hlt : k < s.size
    · by_cases hd : s[k] = c
      · have h2 : ((s[k].toNat : Int) == (c.toNat : Int)) = true := by rw [toNat_beq, hd]; simp
        have hi : s.data.toList.idxOf c = k := idxOf_hit s c k hlt hd hH
        have hr : (k + 1 : Nat) ≤ s.size := hlt
        have Hi := Lib.hid hi
        clear hi
        go_wp2_with fail
        go_quiet (fail)
        go_wp2
        go_ret3
        rw [Hi.out, extract_take, extract_drop]
        exact ⟨by simp [hlt], nq, rfl⟩
      · have h2 : ((s[k].toNat : Int) == (c.toNat : Int)) = false := by rw [toNat_beq]; simp [hd]
        have hi : k + 1 ≤ s.data.toList.idxOf c := idxOf_miss s c k hlt hd hH
        go_wp2
        go_round
        case rel => exact ⟨k + 1, by omega, by go_num, hi⟩
        case measure => simp [intOf]; omega
    · have hk' : k = s.size := by omega
      subst hk'
      have hi : s.data.toList.idxOf c = s.size := by have := List.idxOf_le_length (a := c) (l := s.data.toList); simp only [size_toList] at this; omega
      have Hi := Lib.hid hi
      clear hi
      go_wp2
      go_ret3
      rw [Hi.out, take_all, mk_toList, List.drop_of_length_le (by simp)]
      exact ⟨by simp, 0, rfl⟩

set_option maxHeartbeats 400000 in
theorem decimal_any (n : Nat) : ∀ (w : World), n ≤ 9223372036854775807 →
    Calls Tryz.prog 144 #[.int .i64 n] w fun e w' => e = .returned (.string ⟨(decL n).toArray⟩) ∧ w = w' := by
  induction n using Nat.strongRecOn with
  | _ n ih =>
    intro w hn
    by_cases hlt : n < 10
    · have hd := digits_extract (n % 10) (by omega)
      have hx : decL n = [dchar (n % 10)] := by rw [decL_small hlt, Nat.mod_eq_of_lt hlt]
      have Hx := Lib.hid hx
      clear hx ih
      go_enter Tryz.func144, Tryz.ntmps144
      go_wp2
      go_ret
      rw [Hx.out]
      exact ⟨ret_val (congrArg Value.string hd), rfl⟩
    · have hd := digits_extract (n % 10) (by omega)
      have hx := decL_big hlt
      have Hx := Lib.hid hx
      have hl := decL_length (n / 10)
      have IH := Lib.hid (ih (n / 10) (by omega) w (by omega))
      clear hx ih
      go_enter Tryz.func144, Tryz.ntmps144
      go_wp2_with fail
      rw [show ((n : Int) / 10) = ((n / 10 : Nat) : Int) from by omega]
      refine IH.out.mono ?_
      rintro e w' ⟨rfl, rfl⟩
      go_wp2
      go_ret
      rw [Hx.out]
      exact ⟨ret_val (congrArg Value.string (append_mk _ _)), rfl⟩
theorem headD_eq (s : ByteArray) (h : 0 < s.size) : s.data.toList.headD 0 = s[0] := by
  rw [← getElem_toList s 0 h, List.headD_eq_head?_getD, List.head?_eq_getElem?, List.getElem?_eq_getElem (by simpa using h)]
  rfl

end Go.Proofs.YtdelpialeajajaaGreatDoor

/- The document's rules: kinds of bytes, figures, small numbers; lists of words in memory. -/
namespace Go.Proofs.YtdelpialeajajaaGreatDoor
open Go Go.RowKit
set_option maxRecDepth 10000

/-- a byte's kind: 1 a small letter, 2 a digit, 3 a blank, 0 any other -/
def kindL (c : UInt8) : Nat := if 97 ≤ c.toNat ∧ c.toNat ≤ 122 then 1 else if 48 ≤ c.toNat ∧ c.toNat ≤ 57 then 2 else if c.toNat = 32 then 3 else 0

set_option maxHeartbeats 1000000 in
theorem kind_any (c : UInt8) (w : World) : Calls Tryz.prog 139 #[.int .u8 c.toNat] w fun e w' => e = .returned (.int .i64 (kindL c)) ∧ w = w' := by
  have hlt := c.toNat_lt
  obtain ⟨n, hn⟩ : ∃ n, n = c.toNat := ⟨_, rfl⟩
  have HN := Lib.hid hn
  rw [← hn] at hlt ⊢
  by_cases h1 : 97 ≤ n ∧ n ≤ 122
  · have hf : kindL c = 1 := by unfold kindL; rw [← hn, if_pos h1]
    have HF := Lib.hid hf
    have a1 : decide ((97 : Int) ≤ (n : Int)) = true := by simp; omega
    have a2 : decide ((n : Int) ≤ (122 : Int)) = true := by simp; omega
    clear hn hf
    go_enter Tryz.func139, Tryz.ntmps139
    go_wp2
    all_goals (first | (exfalso; omega) | (go_ret; exact ⟨by rw [HF.out]; rfl, rfl⟩))
  · by_cases h2 : 48 ≤ n ∧ n ≤ 57
    · have hf : kindL c = 2 := by unfold kindL; rw [← hn, if_neg h1, if_pos h2]
      have HF := Lib.hid hf
      clear hn hf
      go_enter Tryz.func139, Tryz.ntmps139
      go_wp2
      all_goals (first | (exfalso; omega) | (go_ret; exact ⟨by rw [HF.out]; rfl, rfl⟩))
    · by_cases h3 : n = 32
      · have hf : kindL c = 3 := by unfold kindL; rw [← hn, if_neg h1, if_neg h2, if_pos h3]
        have HF := Lib.hid hf
        subst h3
        clear hn hf
        go_enter Tryz.func139, Tryz.ntmps139
        go_wp2
        all_goals (first | (exfalso; omega) | (go_ret; exact ⟨by rw [HF.out]; rfl, rfl⟩))
      · have hf : kindL c = 0 := by unfold kindL; rw [← hn, if_neg h1, if_neg h2, if_neg h3]
        have HF := Lib.hid hf
        have a3 : ((n : Int) == 32) = false := by simp; omega
        clear hn hf
        go_enter Tryz.func139, Tryz.ntmps139
        go_wp2
        all_goals (first | (exfalso; omega) | (go_ret; exact ⟨by rw [HF.out]; rfl, rfl⟩))

/-- is it a rule's number? -/
def figB (l : List UInt8) : Bool := numeralsL l && (decide (l.length ≤ 9) && (decide (l.length = 1) || decide (l.headD 0 ≠ 48)))

/-- the value of digits -/
def valL (l : List UInt8) : Nat := l.foldl (fun v c => 10 * v + (c.toNat - 48)) 0

theorem valL_snoc (l : List UInt8) (c : UInt8) : valL (l ++ [c]) = 10 * valL l + (c.toNat - 48) := by simp [valL]

theorem valL_lt : ∀ (l : List UInt8), l.all isDig = true → valL l < 10 ^ l.length := by
  intro l
  induction hn : l.length generalizing l with
  | zero => intro _; have := List.eq_nil_of_length_eq_zero hn; subst this; simp [valL]
  | succ n ih =>
    intro h
    have hne : l ≠ [] := fun q => by rw [q] at hn; cases hn
    obtain ⟨t, c, rfl⟩ : ∃ t c, l = t ++ [c] := ⟨l.dropLast, l.getLast hne, by rw [List.dropLast_concat_getLast]⟩
    rw [List.all_append, Bool.and_eq_true] at h
    have hc : isDig c = true := by simpa using h.2
    have hd := (isDig_iff c).1 hc
    have hl : t.length = n := by simpa using hn
    have := ih t hl h.1
    rw [valL_snoc, Nat.pow_succ]
    omega

/-- a list of texts in memory -/
def StrsAt (w : World) (v : Value) (ws : List (List UInt8)) : Prop := ∃ a cap, v = .slice a ws.length cap ∧ ws.length ≤ cap ∧ cap ≤ maxLen ∧ (a = none → cap = 0) ∧ ∀ j (h : j < ws.length), ∃ b, a = some b ∧ w.cell? (b.add j) = some (strv ws[j])

theorem StrsAt.below {w w' : World} {v : Value} {ws : List (List UInt8)} (h : StrsAt w v ws) (hb : Below w.heap.size w w') : StrsAt w' v ws := by
  obtain ⟨a, cap, hv, hl, hm, h0, hc⟩ := h
  refine ⟨a, cap, hv, hl, hm, h0, fun j hj => ?_⟩
  obtain ⟨b, hb1, hb2⟩ := hc j hj
  refine ⟨b, hb1, ?_⟩
  rw [hb.cell (World.block_lt_of_cell? w _ hb2)]
  exact hb2

theorem StrsAt.of_own {w : World} {base n : Nat} {e : TypeId} {v : Value} {ws : List (List UInt8)} (h : w.ownsRow base e 1 v n (ws.map strv)) : StrsAt w v ws := by
  have hlen : ws.length = n := by have := h.1; simpa using this
  rcases h.2 with ⟨hv, h0⟩ | ⟨g, cap, cur, hv, _, hh, h1, h2, _, ht⟩
  · subst h0
    have : ws = [] := List.eq_nil_of_length_eq_zero hlen
    subst this
    exact ⟨none, 0, hv, Nat.le_refl _, Nat.zero_le _, fun _ => rfl, fun j h => absurd h (Nat.not_lt_zero j)⟩
  · refine ⟨some ⟨g, 0, none⟩, cap, by rw [hv, hlen], by omega, h2, (fun h => by cases h), fun j hj => ⟨_, rfl, ?_⟩⟩
    subst hv
    rw [addr_add0, h.cellAt j (by omega)]
    simp [hj]

/-- a cell of a row of the call's own is written -/
theorem own_put {w : World} {base n : Nat} {e : TypeId} {g cap : Nat} {xs : List Value} (h : w.ownsRow base e 1 (.slice (some ⟨g, 0, none⟩) n cap) n xs) (j : Nat) (hj : j < n) (u : Value) :
    (w.setCell ⟨g, j, none⟩ u).ownsRow base e 1 (.slice (some ⟨g, 0, none⟩) n cap) n (xs.set j u) := by
  have hx : xs.length = n := by have := h.1; simpa using this
  refine ⟨by simp [hx], ?_⟩
  rcases h.2 with ⟨hv, _⟩ | ⟨g2, cap2, cur, hv, hg, hh, h1, h2, h3, ht⟩
  · cases hv
  · simp only [Value.slice.injEq, Option.some.injEq, Addr.mk.injEq] at hv
    obtain ⟨⟨rfl, -⟩, -, rfl⟩ := hv
    refine .inr ⟨g, cap, cur.setIfInBounds j u, rfl, hg, ?_, h1, h2, by simpa using h3, ?_⟩
    · simp [World.setCell, Array.getElem?_modify, hh]
    · rw [Array.toList_setIfInBounds, ← ht, List.take_set]
end Go.Proofs.YtdelpialeajajaaGreatDoor

/- The place of a word in a list (as S14, for a seat without decimal). -/
namespace Go.Proofs.YtdelpialeajajaaGreatDoor
open Go Go.RowKit
set_option maxRecDepth 10000

/-- the place of a word; -1: none -/
def placeL (l : List (List UInt8)) (x : List UInt8) : Int := if l.idxOf x < l.length then (l.idxOf x : Int) else -1

theorem place_here {l : List (List UInt8)} {x : List UInt8} {k : Nat} (hk : k < l.length) (h : x ∉ l.take k) (hx : l[k] = x) : placeL l x = k := by
  have e : l.idxOf x = k := by
    have hs : l = l.take k ++ l[k] :: l.drop (k + 1) := by rw [← List.drop_eq_getElem_cons hk, List.take_append_drop]
    have h2 := congrArg (List.idxOf x) hs
    rw [List.idxOf_append, if_neg h, List.idxOf_cons, hx] at h2
    rw [h2]
    simp
    omega
  unfold placeL
  rw [e, if_pos hk]

theorem place_none {l : List (List UInt8)} {x : List UInt8} (h : x ∉ l) : placeL l x = -1 := by
  unfold placeL
  rw [if_neg (by rw [List.idxOf_lt_length_iff]; exact h)]

theorem place_mem {l : List (List UInt8)} {x : List UInt8} : 0 ≤ placeL l x ↔ x ∈ l := by
  unfold placeL
  rw [← List.idxOf_lt_length_iff]
  split <;> simp_all

set_option maxHeartbeats 1000000 in
theorem place_any (v : Value) (ws : List (List UInt8)) (m : ByteArray) (w : World) (h : StrsAt w v ws) (hw : ws.length ≤ 1000000) :
    Calls Tryz.prog 46 #[v, .string m] w fun e w' => e = .returned (.int .i64 (placeL ws m.data.toList)) ∧ w = w' := by
  obtain ⟨a, cap, rfl, hl, hm, h0, hc⟩ := h
  have HC := Lib.hid hc
  clear hc
  obtain ⟨n, hn⟩ : ∃ n, ws.length = n := ⟨_, rfl⟩
  have HN := Lib.hid hn
  rw [hn] at hl hw ⊢
  clear hn
  obtain ⟨R, hR⟩ : ∃ R, placeL ws m.data.toList = R := ⟨_, rfl⟩
  rw [hR]
  have HR := Lib.hid hR
  clear hR
  go_enter Tryz.func46, Tryz.ntmps46
  go_wp2
  go_loop [5] (fun i => ∃ k : Nat, k ≤ n ∧ i = .int .i64 k ∧ m.data.toList ∉ ws.take k) (fun i => n - (intOf i).toNat)
  case atStart => exact ⟨0, Nat.zero_le _, rfl, by simp⟩
  case round =>
    obtain ⟨k, hk, rfl, hnot⟩ := hrel
    have HNOT := Lib.hid hnot
    clear hnot
    by_cases hlt : k < n
    · obtain ⟨y, rfl, hcy⟩ := HC.out k (by rw [HN.out]; exact hlt)
      by_cases hq : ws[k]'(by rw [HN.out]; exact hlt) = m.data.toList
      · have hq' : (ws[k]'(by rw [HN.out]; exact hlt) == m.toList) = true := by rw [Go.ByteArray.toList_eq, hq]; simp
        have HF := Lib.hid (show R = (k : Int) from HR.out ▸ place_here (by rw [HN.out]; exact hlt) HNOT.out hq)
        clear hq
        go_wp2
        go_ret
        exact ⟨by rw [HF.out]; rfl, rfl⟩
      · have hq' : (ws[k]'(by rw [HN.out]; exact hlt) == m.toList) = false := by rw [Go.ByteArray.toList_eq]; simpa using hq
        have HF := Lib.hid (show m.data.toList ∉ ws.take (k + 1) by
          rw [List.take_succ_eq_append_getElem (by rw [HN.out]; exact hlt), List.mem_append]
          rintro (q | q)
          · exact HNOT.out q
          · simp at q; exact hq q.symm)
        clear hq
        go_wp2
        go_round
        case rel => exact ⟨k + 1, by omega, by go_num, HF.out⟩
        case measure => simp [intOf]; omega
    · obtain rfl : k = n := by omega
      have hnn := HNOT.out
      rw [List.take_of_length_le (by rw [HN.out]; exact Nat.le_refl _)] at hnn
      have HF := Lib.hid (show R = -1 from HR.out ▸ place_none hnn)
      clear hnn
      go_wp2
      go_ret
      exact ⟨by rw [HF.out]; rfl, rfl⟩
end Go.Proofs.YtdelpialeajajaaGreatDoor

/- append in a region that draws, with the place of the new row. -/
namespace Go.Proofs.YtdelpialeajajaaGreatDoor
open Go Go.RowKit

theorem app_op {P : Program} {t e : TypeId} {z : Value} {size bytes : Nat} (E : Elem P t e z size bytes) {w : World} {o : Oper} {a : Act} {K : Act → World → Prop} {Q : Exit → Act → World → Prop}
    (s x : Operand) (ho : o.op = .call { callee := .builtin .append, args := #[s, x], argTypes := #[t, t] })
    (base : Nat) (v : Value) (n : Nat) (xs : List Value) (hs : a.eval s = v) (hown : w.ownsRow base e size v n xs)
    (ad : Addr) (m c : Nat) (news : List Value) (hx : a.eval x = .slice (some ad) m c) (hl : news.length = m * size) (hnews : ∀ j u, news[j]? = some u → w.cell? (ad.add j) = some u) (h1 : ∀ u ∈ news, u.oneCell' = true)
    (h31 : n + m ≤ 2147483648) (hbase : base ≤ w.heap.size)
    (h : ∀ v' w', w'.ownsRow base e size v' (n + m) (xs ++ news) → w.grownBy w' v.ownBlock → (v'.ownBlock = v.ownBlock ∨ v'.ownBlock = some w.heap.size) → K (a.put o.dst v') w') : o.wp P a w K Q := by
  obtain ⟨i, hi, hz, h2, h3⟩ := E.info
  have hs4 := E.small
  obtain ⟨v', w', hr, k2, k3, k4, k5⟩ := run_append_own_at (P := P) w base t o.type e i z size bytes E.under hi hz h2 h3 E.zsize E.pos v n xs hown ad m c news hl hnews h1 (by unfold maxLen; omega) (Nat.le_trans (Nat.mul_le_mul h31 hs4) (by decide)) hbase
  unfold Oper.wp execOp
  simp only [ho, resolve, invoke, builtin, Sem.run_bind, Sem.run_pure, Result.andThen_ok, List.map_toArray, List.map_cons, List.map_nil, hs, hx, hr]
  exact h v' w' k2 k3 k5

/-- a block more, and a number drawn -/
theorem laid_cells (W : World) (cs : List Value) (t : TypeId) : ∃ W1, W1 = (W.alloc (.cells cs.toArray t)).drew ∧ Below W.heap.size W W1 ∧ W1.heap.size = W.heap.size + 1 ∧ ∀ j u, cs[j]? = some u → W1.cell? ((⟨W.heap.size, 0, none⟩ : Addr).add j) = some u :=
  ⟨_, rfl, (((Below.refl _ _).alloc (Nat.le_refl _) _ : Below W.heap.size W (W.alloc (.cells cs.toArray t)))).trans ⟨rfl, rfl, rfl, Nat.le_refl _, fun _ _ => rfl⟩, by simp, fun j u hu => by rw [addr_add0]; exact (cell_made W cs.toArray t (0, 0) j).trans (by simpa using hu)⟩
end Go.Proofs.YtdelpialeajajaaGreatDoor

/- The document's reader: a branch begins. -/
namespace Go.Proofs.YtdelpialeajajaaGreatDoor
open Go Go.RowKit
set_option maxRecDepth 10000

theorem Fr.of {p : Nat} {s : ByteArray} {x : Sc} {w w' : World} (hs : ScanAt p s x w) (hb : Below w.heap.size w w') : Fr p w w' := ⟨But.of hb, hb.cell (p := ⟨p, 2, none⟩) hs.lt⟩

/-- does a branch by a number's own value stand next -/
def eqB (s : ByteArray) (k : Nat) (num : Bool) : Bool := num && decide (byteAt s k = some 61)
def branchT (s : ByteArray) (x : Sc) (num : Bool) : Wd := if eqB s x.i num = true then 61 :: wholeT s (x.i + 1) else nameT s x.i
def branchA (s : ByteArray) (x : Sc) (num : Bool) : Sc :=
  if eqB s x.i num = true then wholeS s { x with i := x.i + 1 }
  else if num = true ∧ nameT s x.i ∉ catsL then faultS (nameS s x) 3 x.i else nameS s x

/-- rows as they were -/
def SameR (x y : Sc) : Prop := y.out = x.out ∧ y.opn = x.opn
theorem sameR_fault (x : Sc) (e a : Nat) : SameR x (faultS x e a) := faultS_out x e a
theorem SameR.trans {x y z : Sc} (h : SameR x y) (k : SameR y z) : SameR x z := ⟨k.1.trans h.1, k.2.trans h.2⟩
theorem sameR_i (x : Sc) (i : Nat) : SameR x { x with i := i } := ⟨rfl, rfl⟩
theorem sameR_name (s : ByteArray) (x : Sc) : SameR x (nameS s x) := by
  unfold nameS
  split
  · exact (sameR_fault x 3 x.i).trans (sameR_i _ _)
  · exact sameR_i _ _
theorem sameR_whole (s : ByteArray) (x : Sc) : SameR x (wholeS s x) := by
  unfold wholeS
  split
  · exact (sameR_fault x 3 x.i).trans (sameR_i _ _)
  · exact sameR_i _ _
theorem sameR_needs (s : ByteArray) (x : Sc) (c : UInt8) : SameR x (needsS s x c) := by
  unfold needsS
  split
  · exact sameR_i _ _
  · exact sameR_fault _ _ _
theorem sameR_branchA (s : ByteArray) (x : Sc) (num : Bool) : SameR x (branchA s x num) := by
  unfold branchA
  split
  · exact (sameR_i x _).trans (sameR_whole s _)
  · split
    · exact (sameR_name s x).trans (sameR_fault _ _ _)
    · exact sameR_name s x
theorem sameR_Y (s : ByteArray) (x : Sc) (num : Bool) : SameR x (needsS s (blanksS s (branchA s x num)) 123) :=
  ((sameR_branchA s x num).trans (sameR_i _ _)).trans (sameR_needs s _ _)

/-- a branch begins -/
def branchS (s : ByteArray) (x : Sc) (num : Bool) : Sc :=
  if x.err ≠ 0 then x else
  let Y := needsS s (blanksS s (branchA s x num)) 123
  let U := if 6 < Y.opn.length + 2 then faultS Y 4 (blanksS s (branchA s x num)).i else Y
  { U with opn := U.opn ++ [num], out := U.out ++ [⟨91, branchT s x num, [], [], [], x.i⟩] }
theorem branchS_eq {s : ByteArray} {x : Sc} {num : Bool} {k a n : Nat} {Y U X : Sc} {T : Wd} (h0 : x.err = 0) (hk : x.i = k) (ha : (blanksS s (branchA s x num)).i = a) (hY : needsS s (blanksS s (branchA s x num)) 123 = Y)
    (hn : Y.opn.length + 2 = n) (hU : (if 6 < n then faultS Y 4 a else Y) = U) (hT : branchT s x num = T) (hX : ({ U with opn := U.opn ++ [num] } : Sc) = X) :
    branchS s x num = { X with out := X.out ++ [⟨91, T, [], [], [], k⟩] } := by
  subst hk ha hY hn hU hT hX
  unfold branchS
  rw [if_neg (by simp [h0])]

theorem scan_branch_no (p : Nat) (s : ByteArray) (x : Sc) (num : Bool) (w : World) (h : ScanAt p s x w) (h0 : x.err ≠ 0) :
    Calls Tryz.prog 108 #[.pointer (some ⟨p, 0, none⟩), .bool num] w (ScanQ p s (.tuple #[]) (branchS s x num) w) := by
  have HH := Lib.hid h
  have c4 := h.c4
  have HY := Lib.hid (show branchS s x num = x from if_pos h0)
  have j1 : ((x.err : Int) == 0) = false := by simp; omega
  have j2 : ((x.err : Int) != 0) = true := by simp; omega
  clear h h0
  go_enter Tryz.func108, Tryz.ntmps108
  go_wp2
  refine bodyPost_ret (v := .tuple #[]) ?_ rfl ?_
  · simp [results, Tryz.results108, go_sem]
  rw [HY.out]
  exact ⟨rfl, HH.out, Below.refl _ _⟩

set_option maxHeartbeats 4000000 in
theorem scan_branch (p : Nat) (s : ByteArray) (x : Sc) (num : Bool) (w : World) (h : ScanAt p s x w) (hr1 : x.out.length + 1 ≤ 1000000) (hr2 : x.opn.length + 1 ≤ 1000000) :
    Calls Tryz.prog 108 #[.pointer (some ⟨p, 0, none⟩), .bool num] w (ScanQ p s (.tuple #[]) (branchS s x num) w) := by
  have HH := Lib.hid h
  obtain ⟨k, hk⟩ : ∃ k, x.i = k := ⟨_, rfl⟩
  have HXI := Lib.hid hk
  have c1 := h.c1
  have c4 := h.c4
  have hlt := h.lt
  have hsz := h.size
  have hh := h.here
  by_cases e0 : x.err = 0
  case neg => exact scan_branch_no p s x num w h e0
  have HE0 := Lib.hid e0
  rw [e0] at c4
  rw [hk] at c1 hh
  clear h hk e0
  go_enter Tryz.func108, Tryz.ntmps108
  go_upto_region 2 with fail
  refine wp_gen ?_
  intro W1 hW1
  have HBI := Lib.hid (show BrI p s x w.heap.size ⟨91, [], [], [], [], k⟩ W1 by rw [hW1]; exact BrI.start HH.out)
  have hB0 : Below p w W1 := by rw [hW1]; exact (Below.refl _ _).alloc (Nat.le_of_lt hlt) _
  obtain ⟨b, hb⟩ : ∃ b, w.heap.size = b := ⟨_, rfl⟩
  rw [hb] at HBI ⊢
  clear hW1 c1 c4 hb
  have c0 := HBI.out.at_.c0
  have c1 := HBI.out.at_.c1
  rw [HXI.out] at c1
  have hS0 : W1.drew.cell? ⟨p, 0, none⟩ = some (.string s) ∧ W1.drew.cell? ⟨p, 1, none⟩ = some (.int .i64 (k : Nat)) := ⟨c0, c1⟩
  clear c0 c1
  go_cut [42] (fun v wc => v = .bool (eqB s k num) ∧ BrI p s x b ⟨91, [], [], [], [], k⟩ wc ∧ Below p w wc)
  case first =>
    cases num with
    | false =>
      have HE := Lib.hid (show eqB s k false = false from rfl)
      go_wp2_with fail
      refine wp_region_takes (fun W' : World => W'.cell? ⟨p, 0, none⟩ = some (.string s) ∧ W'.cell? ⟨p, 1, none⟩ = some (.int .i64 (k : Nat))) [0, 1, 2, 3, 4, 5, 6, 7, 8, 9, 10, 11, 12, 13, 14, 15, 16, 17, 18, 19, 20, 21, 22, 23, 24] 0 (by intro _ _ d _ _ h; cases d <;> exact h) (by kernel_rfl) (by kernel_rfl) hS0 ?_
      (iterate 25 (first | (refine takes_yes (v := ?_) rfl (by rfl) ?_ ?_; rotate_left; (focus ((intro w' hS'; (try dsimp only at hS'); go_simp; try (with_reducible rfl)); done)); (try simp only [Act.put, List.setIfInBounds_toArray, List.set_cons_zero, List.set_cons_succ])) | (refine takes_no rfl (by rfl) ?_; (try simp only [Act.put, List.setIfInBounds_toArray, List.set_cons_zero, List.set_cons_succ]))))
      refine takes_nil ?_
      refine wpAnyH_done (by kernel_rfl) ?_ _
      go_wp2_with fail
      go_meet
      case rel => exact ⟨by rw [HE.out], HBI.out.drew, hB0.drew⟩
    | true =>
      by_cases hlt2 : k < s.size
      · have k1 : decide ((k : Int) < (s.size : Int)) = true := by simp; omega
        have k1n : decide (k < s.size) = true := by simp; omega
        have k1' : (k : Int) < (s.size : Int) := by omega
        obtain ⟨d, hd⟩ : ∃ d, s[k] = d := ⟨_, rfl⟩
        by_cases hdc : d = 61
        · have j1 : ((d.toNat : Int) == 61) = true := by rw [hdc]; rfl
          have HE := Lib.hid (show eqB s k true = true by unfold eqB; rw [byteAt_lt hlt2, hd, hdc]; rfl)
          clear hdc
          go_wp2_with fail
          refine wp_region_takes (fun W' : World => W'.cell? ⟨p, 0, none⟩ = some (.string s) ∧ W'.cell? ⟨p, 1, none⟩ = some (.int .i64 (k : Nat))) [0, 1, 2, 3, 4, 5, 6, 7, 8, 9, 10, 11, 12, 13, 14, 15, 16, 17, 18, 19, 20, 21, 22, 23, 24] 0 (by intro _ _ d _ _ h; cases d <;> exact h) (by kernel_rfl) (by kernel_rfl) hS0 ?_
          (iterate 25 (first | (refine takes_yes (v := ?_) rfl (by rfl) ?_ ?_; rotate_left; (focus ((intro w' hS'; (try dsimp only at hS'); go_simp; try (with_reducible rfl)); done)); (try simp only [Act.put, List.setIfInBounds_toArray, List.set_cons_zero, List.set_cons_succ])) | (refine takes_no rfl (by rfl) ?_; (try simp only [Act.put, List.setIfInBounds_toArray, List.set_cons_zero, List.set_cons_succ]))))
          refine takes_nil ?_
          refine wpAnyH_done (by kernel_rfl) ?_ _
          go_wp2_with fail
          go_meet
          case rel => exact ⟨by rw [HE.out], HBI.out.drew, hB0.drew⟩
        · have j1 : ((d.toNat : Int) == 61) = false := byte_ne hdc
          have HE := Lib.hid (show eqB s k true = false by unfold eqB; rw [byteAt_lt hlt2, hd]; simp [hdc])
          clear hdc
          go_wp2_with fail
          refine wp_region_takes (fun W' : World => W'.cell? ⟨p, 0, none⟩ = some (.string s) ∧ W'.cell? ⟨p, 1, none⟩ = some (.int .i64 (k : Nat))) [0, 1, 2, 3, 4, 5, 6, 7, 8, 9, 10, 11, 12, 13, 14, 15, 16, 17, 18, 19, 20, 21, 22, 23, 24] 0 (by intro _ _ d _ _ h; cases d <;> exact h) (by kernel_rfl) (by kernel_rfl) hS0 ?_
          (iterate 25 (first | (refine takes_yes (v := ?_) rfl (by rfl) ?_ ?_; rotate_left; (focus ((intro w' hS'; (try dsimp only at hS'); go_simp; try (with_reducible rfl)); done)); (try simp only [Act.put, List.setIfInBounds_toArray, List.set_cons_zero, List.set_cons_succ])) | (refine takes_no rfl (by rfl) ?_; (try simp only [Act.put, List.setIfInBounds_toArray, List.set_cons_zero, List.set_cons_succ]))))
          refine takes_nil ?_
          refine wpAnyH_done (by kernel_rfl) ?_ _
          go_wp2_with fail
          go_meet
          case rel => exact ⟨by rw [HE.out], HBI.out.drew, hB0.drew⟩
      · have k1 : decide ((k : Int) < (s.size : Int)) = false := by simp; omega
        have k1n : decide (k < s.size) = false := by simp; omega
        have HE := Lib.hid (show eqB s k true = false by unfold eqB; rw [byteAt_end hlt2]; rfl)
        go_wp2_with fail
        refine wp_region_takes (fun W' : World => W'.cell? ⟨p, 0, none⟩ = some (.string s) ∧ W'.cell? ⟨p, 1, none⟩ = some (.int .i64 (k : Nat))) [0, 1, 2, 3, 4, 5, 6, 7, 8, 9, 10, 11, 12, 13, 14, 15, 16, 17, 18, 19, 20, 21, 22, 23, 24] 0 (by intro _ _ d _ _ h; cases d <;> exact h) (by kernel_rfl) (by kernel_rfl) hS0 ?_
        (iterate 25 (first | (refine takes_yes (v := ?_) rfl (by rfl) ?_ ?_; rotate_left; (focus ((intro w' hS'; (try dsimp only at hS'); go_simp; try (with_reducible rfl)); done)); (try simp only [Act.put, List.setIfInBounds_toArray, List.set_cons_zero, List.set_cons_succ])) | (refine takes_no rfl (by rfl) ?_; (try simp only [Act.put, List.setIfInBounds_toArray, List.set_cons_zero, List.set_cons_succ]))))
        refine takes_nil ?_
        refine wpAnyH_done (by kernel_rfl) ?_ _
        go_wp2_with fail
        go_meet
        case rel => exact ⟨by rw [HE.out], HBI.out.drew, hB0.drew⟩
  case rest =>
    obtain ⟨rfl, hbi, hbw⟩ := hcut
    go_upto_if 42 with fail
    have HBI := Lib.hid hbi
    clear hbi
    go_cut [] (fun wc => BrI p s (branchA s x num) b ⟨91, branchT s x num, [], [], [], k⟩ wc ∧ Below p w wc)
    case first =>
      obtain ⟨e, he⟩ : ∃ e, eqB s k num = e := ⟨_, rfl⟩
      rw [he]
      have c1 := HBI.out.at_.c1
      rw [HXI.out] at c1
      have z1 := HBI.out.at_.z 1
      cases e with
      | true =>
        have hk1 : k + 1 ≤ s.size := by
          unfold eqB at he
          simp only [Bool.and_eq_true, decide_eq_true_eq] at he
          by_cases hlt2 : k < s.size
          · exact hlt2
          · rw [byteAt_end hlt2] at he
            exact absurd he.2 (by simp)
        obtain ⟨K, hK⟩ : ∃ K, k + 1 = K := ⟨_, rfl⟩
        have hT : branchT s x num = 61 :: wholeT s K := by unfold branchT; rw [HXI.out, if_pos he, hK]
        have hA : branchA s x num = wholeS s { x with i := K } := by unfold branchA; rw [HXI.out, if_pos he, hK]
        have HT := Lib.hid hT
        have HA := Lib.hid hA
        have hL : (wholeT s K).length ≤ 100000 := by
          unfold wholeT
          rw [List.length_take, List.length_drop, size_toList]
          omega
        have HP := Lib.hid (HBI.out.put1 K (by omega))
        have q1 : (k : Int) + 1 = (K : Int) := by omega
        obtain ⟨T, hTT⟩ : ∃ T, wholeT s K = T := ⟨_, rfl⟩
        have HW := Lib.hid (fun W hs => scan_whole p s { x with i := K } W hs)
        rw [hTT] at hL
        have HTT := Lib.hid hTT
        have w1 : (9223372036854775807 < 1 + T.length) = False := by simp; omega
        clear hT hA hK hTT he
        go_wp2_with fail
        refine (HW.out _ HP.out.at_).mono ?_
        rintro e w2 ⟨rfl, hs2, hf2⟩
        dsimp only
        rw [HTT.out]
        have hb2 := HP.out.step hs2 hf2
        have HB2 := Lib.hid hb2
        have hw2 := Lib.hid ((below_put hbw (b := p) (Nat.le_refl _)).trans (hf2.below HP.out.at_))
        have u1 := hb2.mkb.cell 1
        have z2 := hb2.mkb.free 1
        have hb3 := hb2.set (m' := ⟨91, T, [], [], [], k⟩) 1 (strv T) rfl
        have u3 := hb3.mkb.cell 1
        have z3 := hb3.mkb.free 1
        have HB3 := Lib.hid hb3
        have hb4 := hb3.set (m' := ⟨91, 61 :: T, [], [], [], k⟩) 1 (strv (61 :: T)) rfl
        have HB4 := Lib.hid hb4
        have hbp := hb2.lt
        clear hs2 hf2 hb2 hb3 hb4
        simp only [markV, List.getElem?_cons_succ, List.getElem?_cons_zero] at u1 u3
        go_wp2_with fail
        go_meet
        case rel =>
          rw [HA.out, HT.out, HTT.out]
          exact ⟨HB4.out, below_put (below_put hw2.out (Nat.le_of_lt hbp)) (Nat.le_of_lt hbp)⟩
      | false =>
        have hne : ¬ (eqB s k num = true) := by rw [he]; simp
        obtain ⟨T, hTT⟩ : ∃ T, nameT s k = T := ⟨_, rfl⟩
        have HT := Lib.hid (show branchT s x num = T by unfold branchT; rw [HXI.out, if_neg hne, hTT])
        have HA := Lib.hid (show branchA s x num = if num = true ∧ T ∉ catsL then faultS (nameS s x) 3 k else nameS s x by unfold branchA; rw [HXI.out, if_neg hne, hTT])
        have HTT := Lib.hid (show nameT s x.i = T by rw [HXI.out, hTT])
        clear hne he hTT
        go_wp2_with fail
        refine (scan_name p s x wc HBI.out.at_).mono ?_
        rintro e w2 ⟨rfl, hs2, hf2⟩
        dsimp only
        rw [HTT.out]
        have hb2 := HBI.out.step hs2 hf2
        have HB2 := Lib.hid hb2
        have hw2 := Lib.hid (hbw.trans (hf2.below HBI.out.at_))
        have u1 := hb2.mkb.cell 1
        have z2 := hb2.mkb.free 1
        have hb3 := hb2.set (m' := ⟨91, T, [], [], [], k⟩) 1 (strv T) rfl
        have HB3 := Lib.hid hb3
        have hbp := hb2.lt
        clear hs2 hf2 hb2 hb3 z1 c1
        simp only [markV, List.getElem?_cons_succ, List.getElem?_cons_zero] at u1
        go_wp2_with fail
        obtain ⟨w3, hw3⟩ : ∃ X, w2.setCell ⟨b, 1, none⟩ (strv T) = X := ⟨_, rfl⟩
        rw [hw3] at HB3 ⊢
        have hbw3 : Below p w w3 := by rw [← hw3]; exact below_put hw2.out (Nat.le_of_lt hbp)
        clear hw3 u1 z2
        refine (categories_any w3).mono ?_
        rintro e w4 ⟨cv, rfl, hov, hb4⟩
        have HSA := Lib.hid (StrsAt.of_own hov)
        have hb4i := HB3.out.step (HB3.out.at_.below hb4) (Fr.of HB3.out.at_ hb4)
        have HB4 := Lib.hid hb4i
        have hbw4 := Lib.hid (hbw3.trans ((Fr.of HB3.out.at_ hb4).below HB3.out.at_))
        have u1 := hb4i.mkb.cell 1
        have u5 := hb4i.mkb.cell 5
        simp only [markV, List.getElem?_cons_succ, List.getElem?_cons_zero] at u1 u5
        clear hov hb4 hb4i
        go_wp2_with fail
        refine (place_any cv catsL ⟨T.toArray⟩ w4 HSA.out (by decide)).mono ?_
        rintro e w5 ⟨rfl, rfl⟩
        obtain ⟨q, hq⟩ : ∃ q, placeL catsL T = q := ⟨_, rfl⟩
        rw [show placeL catsL (⟨T.toArray⟩ : ByteArray).data.toList = q from hq]
        cases num with
        | false =>
          have HY := Lib.hid (show branchA s x false = nameS s x by rw [HA.out, if_neg (fun e => by cases e.1)])
          clear hq
          go_wp2_with fail
          go_meet
          case rel =>
            rw [HY.out, HT.out]
            exact ⟨HB4.out, hbw4.out⟩
        | true =>
          by_cases hin : T ∈ catsL
          · have HY := Lib.hid (show branchA s x true = nameS s x by rw [HA.out, if_neg (fun e => e.2 hin)])
            have hq0 : 0 ≤ q := hq ▸ place_mem.2 hin
            have j1 : decide (q < 0) = false := by simp; omega
            clear hq hin
            go_wp2_with fail
            go_meet
            case rel =>
              rw [HY.out, HT.out]
              exact ⟨HB4.out, hbw4.out⟩
          · have HY := Lib.hid (show branchA s x true = faultS (nameS s x) 3 k by rw [HA.out, if_pos ⟨rfl, hin⟩])
            have hq0 : q = -1 := hq ▸ place_none hin
            have j1 : decide (q < 0) = true := by simp; omega
            clear hq hin hq0
            go_wp2_with fail
            refine (scan_fault p s (nameS s x) 3 k w4 HB4.out.at_).mono ?_
            rintro e w6 ⟨rfl, hs6, hf6⟩
            have HB6 := Lib.hid (HB4.out.step hs6 hf6)
            have hw6 := Lib.hid (hbw4.out.trans (hf6.below HB4.out.at_))
            clear hs6 hf6
            go_wp2_with fail
            go_meet
            case rel =>
              rw [HY.out, HT.out]
              exact ⟨HB6.out, hw6.out⟩
    case rest =>
      obtain ⟨hbi, hbw⟩ := hcut
      have HBI := Lib.hid hbi
      clear hbi
      go_wp2_with fail
      refine (scan_blanks p s (branchA s x num) wc HBI.out.at_).mono ?_
      rintro e w2 ⟨rfl, hs2, hf2⟩
      have hb2 := HBI.out.step hs2 hf2
      have hw2 := hbw.trans (hf2.below HBI.out.at_)
      have HB2 := Lib.hid hb2
      have c1 := hs2.c1
      obtain ⟨at_, hat⟩ : ∃ a, (blanksS s (branchA s x num)).i = a := ⟨_, rfl⟩
      rw [hat] at c1
      have HAT := Lib.hid hat
      clear hs2 hf2 hb2 hat hbw
      go_wp2_with fail
      refine (scan_needs p s (blanksS s (branchA s x num)) 123 w2 HB2.out.at_).mono ?_
      rintro e w3 ⟨rfl, hs3, hf3⟩
      have hb3 := HB2.out.step hs3 hf3
      have hw3 := hw2.trans (hf3.below HB2.out.at_)
      have HB3 := Lib.hid hb3
      clear hs3 hf3 hb3 hw2 c1
      obtain ⟨Y, hY⟩ : ∃ Y, needsS s (blanksS s (branchA s x num)) 123 = Y := ⟨_, rfl⟩
      rw [hY] at HB3
      have HYY := Lib.hid hY
      have hYR : SameR x Y := hY ▸ sameR_Y s x num
      have HYR := Lib.hid hYR
      clear hY
      obtain ⟨v2, v3, h2, h2', h3, h3', hd⟩ := HB3.out.at_.rows
      obtain ⟨n, hn⟩ : ∃ n, Y.opn.length = n := ⟨_, rfl⟩
      have hlo := HB3.out.at_.lopn
      rw [hn] at h3' hlo
      obtain ⟨oa, oc, rfl⟩ := own_slice h3'
      have HNN := Lib.hid hn
      have hn1 : n + 1 ≤ 1000000 := by rw [← hn, hYR.2]; exact hr2
      clear hYR
      clear h2 h2' h3' hd hn
      obtain ⟨n2, hn2⟩ : ∃ n2, n + 2 = n2 := ⟨_, rfl⟩
      have q2 : (n : Int) + 2 = (n2 : Int) := by omega
      have qw : IntKind.i64.wrap (n2 : Int) = (n2 : Int) := by simp [IntKind.wrap, IntKind.signed, IntKind.bits]; omega
      go_upto_if 88 with fail
      go_cut [] (fun wc => BrI p s (if 6 < n2 then faultS Y 4 at_ else Y) b ⟨91, branchT s x num, [], [], [], k⟩ wc ∧ Below p w wc)
      case first =>
        by_cases h6 : 6 < n2
        · have j1 : decide ((6 : Int) < (n2 : Int)) = true := by simp; omega
          have j1n : decide (6 < n2) = true := by simp; omega
          have HU := Lib.hid (show (if 6 < n2 then faultS Y 4 at_ else Y) = faultS Y 4 at_ from if_pos h6)
          have h6i : (6 : Int) < (n2 : Int) := by omega
          go_wp2_with fail
          refine (scan_fault p s Y 4 at_ w3 HB3.out.at_).mono ?_
          rintro e w4 ⟨rfl, hs4, hf4⟩
          have HB4 := Lib.hid (HB3.out.step hs4 hf4)
          have hw4 := Lib.hid (hw3.trans (hf4.below HB3.out.at_))
          clear hs4 hf4
          go_wp2_with fail
          go_meet
          case rel =>
            rw [HU.out]
            exact ⟨HB4.out, hw4.out⟩
        · have j1 : decide ((6 : Int) < (n2 : Int)) = false := by simp; omega
          have j1n : decide (6 < n2) = false := by simp; omega
          have HU := Lib.hid (show (if 6 < n2 then faultS Y 4 at_ else Y) = Y from if_neg h6)
          have h6i : ¬ (6 : Int) < (n2 : Int) := by omega
          go_wp2_with fail
          go_meet
          case rel =>
            rw [HU.out]
            exact ⟨HB3.out, hw3⟩
      case rest =>
        obtain ⟨hbi, hbw⟩ := hcut
        obtain ⟨U, hU⟩ : ∃ U, (if 6 < n2 then faultS Y 4 at_ else Y) = U := ⟨_, rfl⟩
        rw [hU] at hbi
        have hUo : U.opn = Y.opn := by
          rw [← hU]
          split
          · exact (faultS_out _ _ _).2
          · rfl
        have HU := Lib.hid hU
        have HBI := Lib.hid hbi
        have HUN := Lib.hid (show U.opn.length = n by rw [hUo]; exact HNN.out)
        have HUO := Lib.hid (show U.out = Y.out by
          rw [← hU]
          split
          · exact (faultS_out _ _ _).1
          · rfl)
        clear hbi hU hUo
        obtain ⟨v2, v3, h2, h2', h3, h3', hd⟩ := HBI.out.at_.rows
        have H2 := Lib.hid h2'
        have HD := Lib.hid hd
        have H3 := Lib.hid h3'
        have hbb := HBI.out.mkb.lt
        rw [HUN.out] at h3'
        obtain ⟨va, vc, rfl⟩ := own_slice h3'
        have H3n := Lib.hid h3'
        have HL := Lib.hid HBI.out.at_.lt
        clear h2' h3' hd
        go_wp2_with (at_builtin; refine list_gen ?_)
        intro W4 hW4
        have hbA : Below wc.heap.size wc W4 := by rw [hW4]; exact (Below.refl _ _).alloc (Nat.le_refl _) _
        have hC := fun i => cell_made wc #[.bool num] 4 (0, 0) i
        rw [← hW4] at hC
        have s4 : W4.heap.size = wc.heap.size + 1 := by rw [hW4]; simp
        have HO := Lib.hid (own_below H3n.out hbA)
        have HBA := Lib.hid hbA
        have hpl := HL.out
        clear hW4
        refine app_at elem_bools rfl _ _ rfl (p + 1) _ n (boolsC U.opn) rfl HO.out ⟨wc.heap.size, 0, none⟩ 1 1 [.bool num] rfl rfl ?C1 ?C2 (by omega) (by omega) ?C3
        case C1 => exact cells_one (hC 0)
        case C2 =>
          intro u hu
          simp at hu
          subst hu
          rfl
        intro v5 W5 ho hg hw
        have hgr := HBI.out.at_.grow3 (m := num) H2.out h2 h3 H3.out HD.out HBA.out (by rw [HUN.out]; exact ho) hg hw (by rw [HUN.out]; omega)
        have C := HBI.out.at_.cells5 HBA.out hg (fun g e => (H3.out.lt g e).1)
        have e3 := hg.cell ((HBA.out.cell (p := ⟨p, 3, none⟩) HL.out).trans h3) (fun e => Nat.lt_irrefl _ ((H3.out.lt p e.symm).1))
        have z3 := C.z 3
        have HC2 := Lib.hid (show W5.cell? ⟨p, 2, none⟩ = wc.cell? ⟨p, 2, none⟩ from (hg.cell ((HBA.out.cell (p := ⟨p, 2, none⟩) HL.out).trans h2) (fun e => Nat.lt_irrefl _ ((H3.out.lt p e.symm).1))).trans h2.symm)
        have hb3 : (some b : Option Nat) ≠ (Value.slice va n vc).ownBlock := by
          intro e
          have hk := HBI.out.mkb
          rcases H3.out.2 with ⟨hv, _⟩ | ⟨g, cap, cur, hv, hg', hh, rest⟩
          · rw [hv] at e; cases e
          · rw [hv] at e
            cases e
            unfold MkB at hk
            rw [hk] at hh
            have := (Option.some.inj hh)
            cases this
        have hmk := (hg.block b (by have := HBA.out.size; omega) hb3).trans (HBI.out.mkb.below HBA.out)
        have HMK := Lib.hid (show MkB b ⟨91, branchT s x num, [], [], [], k⟩ W5 from hmk)
        obtain ⟨na, nc, rfl⟩ := own_slice ho
        have HGR := Lib.hid hgr
        have hs5 := hg.size
        have hpb := HBI.out.lt
        clear hgr C ho hg hw hC hmk hb3 h2 h3 H2 H3 HD H3n
        go_wp2_with fail
        obtain ⟨W6, hW6⟩ : ∃ X, W5.setCell ⟨p, 3, none⟩ (.slice na (n + 1) nc) = X := ⟨_, rfl⟩
        have HM6 := Lib.hid (show MkB b ⟨91, branchT s x num, [], [], [], k⟩ W6 from hW6 ▸ HMK.out.but (But.set p W5 3 _) (by omega))
        have HC6 := Lib.hid (show W6.cell? ⟨p, 2, none⟩ = wc.cell? ⟨p, 2, none⟩ by rw [← hW6, cellSet, if_neg (by simp)]; exact HC2.out)
        rw [hW6] at HGR
        try rw [hW6]
        clear hW6 e3 z3
        obtain ⟨T, hT⟩ : ∃ T, branchT s x num = T := ⟨_, rfl⟩
        rw [hT] at HM6
        have HT := Lib.hid hT
        obtain ⟨X, hX⟩ : ∃ X, ({ U with opn := U.opn ++ [num] } : Sc) = X := ⟨_, rfl⟩
        rw [hX] at HGR
        have hlo : X.out.length + 1 ≤ 1000000 := by rw [← hX]; show U.out.length + 1 ≤ 1000000; rw [HUO.out, HYR.out.1]; exact hr1
        have HX := Lib.hid hX
        have HB := Lib.hid (show BrI p s X b ⟨91, T, [], [], [], k⟩ W6 from ⟨HGR.out.1, HM6.out, hpb, fun v hv => HBI.out.away v (HC6.out ▸ hv)⟩)
        clear hT hX hr1
        obtain ⟨v2, v3, h2, h2', h3, h3', hd⟩ := HB.out.at_.rows
        obtain ⟨xa, xc, rfl⟩ := own_slice h2'
        obtain ⟨no, hno⟩ : ∃ no, X.out.length = no := ⟨_, rfl⟩
        have HNO := Lib.hid hno
        have HLO := Lib.hid hlo
        rw [hno] at h2 h2' hlo
        have hbo : some b ≠ (Value.slice xa no xc).ownBlock := fun e => HB.out.away _ h2 e.symm
        have HBO := Lib.hid hbo
        have m0 := HB.out.mkb.cell 0
        have m1 := HB.out.mkb.cell 1
        have m2 := HB.out.mkb.cell 2
        have m3 := HB.out.mkb.cell 3
        have m4 := HB.out.mkb.cell 4
        have m5 := HB.out.mkb.cell 5
        simp only [markV, List.getElem?_cons_succ, List.getElem?_cons_zero] at m0 m1 m2 m3 m4 m5
        have H2 := Lib.hid h2'
        have H3 := Lib.hid h3'
        have H3K := Lib.hid h3
        have HD := Lib.hid hd
        clear h2' h3' hd hno h3 hbo
        have hplt := HB.out.at_.lt
        have hblt := HB.out.mkb.lt
        have hS0 : W6.drew.cell? ⟨p, 2, none⟩ = some (.slice xa (no : Nat) xc) ∧ W6.drew.cell? ⟨b, 0, none⟩ = some (.int .u8 91) ∧ W6.drew.cell? ⟨b, 1, none⟩ = some (strv T) ∧ W6.drew.cell? ⟨b, 2, none⟩ = some (strv []) ∧ W6.drew.cell? ⟨b, 3, none⟩ = some (strv []) ∧ W6.drew.cell? ⟨b, 4, none⟩ = some (strv []) ∧ W6.drew.cell? ⟨b, 5, none⟩ = some (.int .i64 (k : Nat)) := ⟨h2, m0, m1, m2, m3, m4, m5⟩
        refine wp_region_takesK (fun W' : World => W'.cell? ⟨p, 2, none⟩ = some (.slice xa (no : Nat) xc) ∧ W'.cell? ⟨b, 0, none⟩ = some (.int .u8 91) ∧ W'.cell? ⟨b, 1, none⟩ = some (strv T) ∧ W'.cell? ⟨b, 2, none⟩ = some (strv []) ∧ W'.cell? ⟨b, 3, none⟩ = some (strv []) ∧ W'.cell? ⟨b, 4, none⟩ = some (strv []) ∧ W'.cell? ⟨b, 5, none⟩ = some (.int .i64 (k : Nat))) 10 [0, 1, 2, 3, 4, 5] 5 (by intro _ _ d _ _ h; cases d <;> exact h) (by kernel_rfl) (by kernel_rfl) hS0 ?_
        (iterate 6 (first | (refine takes_yes (v := ?_) rfl (by rfl) ?_ ?_; rotate_left; (focus ((intro w' hS'; (try dsimp only at hS'); go_simp; try (with_reducible rfl)); done)); (try simp only [Act.put, List.setIfInBounds_toArray, List.set_cons_zero, List.set_cons_succ])) | (refine takes_no rfl (by rfl) ?_; (try simp only [Act.put, List.setIfInBounds_toArray, List.set_cons_zero, List.set_cons_succ]))))
        refine takes_nil ?_
        refine wpAnyK_only 6 (by kernel_rfl) rfl (fun K hK => ?_)
        go_simp
        obtain ⟨W7, hW7, hb7, hs7, hc7⟩ := laid_cells W6 [.int .u8 91, strv T, strv [], strv [], strv [], .int .i64 (k : Nat)] 61
        rw [← hW7]
        clear hW7
        have hS7 : W7.cell? ⟨p, 2, none⟩ = some (.slice xa (no : Nat) xc) ∧ W7.cell? ⟨b, 0, none⟩ = some (.int .u8 91) ∧ W7.cell? ⟨b, 1, none⟩ = some (strv T) ∧ W7.cell? ⟨b, 2, none⟩ = some (strv []) ∧ W7.cell? ⟨b, 3, none⟩ = some (strv []) ∧ W7.cell? ⟨b, 4, none⟩ = some (strv []) ∧ W7.cell? ⟨b, 5, none⟩ = some (.int .i64 (k : Nat)) := ⟨(hb7.cell (p := ⟨p, 2, none⟩) hplt).trans h2, (hb7.cell (p := ⟨b, 0, none⟩) hblt).trans m0, (hb7.cell (p := ⟨b, 1, none⟩) hblt).trans m1, (hb7.cell (p := ⟨b, 2, none⟩) hblt).trans m2, (hb7.cell (p := ⟨b, 3, none⟩) hblt).trans m3, (hb7.cell (p := ⟨b, 4, none⟩) hblt).trans m4, (hb7.cell (p := ⟨b, 5, none⟩) hblt).trans m5⟩
        refine hK.out _ _ hS7 (fun _ => ?_)
        clear hK K hS0
        have HB7 := Lib.hid hb7
        have HC7 := Lib.hid hc7
        clear hb7 hc7
        refine wpAnyK_only 7 (by kernel_rfl) rfl (fun K hK => ?_)
        rw [if_pos (by rfl)]
        refine app_op elem_marks _ _ rfl (p + 1) _ no (marksC X.out) rfl (own_below H2.out HB7.out) ⟨W6.heap.size, 0, none⟩ 1 1 (markV ⟨91, T, [], [], [], k⟩) rfl rfl HC7.out ?x1 (by omega) (by omega) ?x2
        case x1 =>
          intro u hu
          simp [markV] at hu
          rcases hu with rfl | rfl | rfl | rfl | rfl | rfl <;> rfl
        intro v' w' ho hg hw
        have hpo : some p ≠ (Value.slice xa no xc).ownBlock := fun e => Nat.lt_irrefl _ (H2.out.lt p e.symm).1
        have hS8 : w'.cell? ⟨p, 2, none⟩ = some (.slice xa (no : Nat) xc) ∧ w'.cell? ⟨b, 0, none⟩ = some (.int .u8 91) ∧ w'.cell? ⟨b, 1, none⟩ = some (strv T) ∧ w'.cell? ⟨b, 2, none⟩ = some (strv []) ∧ w'.cell? ⟨b, 3, none⟩ = some (strv []) ∧ w'.cell? ⟨b, 4, none⟩ = some (strv []) ∧ w'.cell? ⟨b, 5, none⟩ = some (.int .i64 (k : Nat)) := ⟨hg.cell hS7.1 hpo, hg.cell hS7.2.1 HBO.out, hg.cell hS7.2.2.1 HBO.out, hg.cell hS7.2.2.2.1 HBO.out, hg.cell hS7.2.2.2.2.1 HBO.out, hg.cell hS7.2.2.2.2.2.1 HBO.out, hg.cell hS7.2.2.2.2.2.2 HBO.out⟩
        have C := HB.out.at_.cells5 HB7.out hg (fun g e => (H2.out.lt g e).1)
        have z2 := C.z 2
        have hgr := HB.out.at_.grow2 (m := ⟨91, T, [], [], [], k⟩) (by rw [HNO.out]; exact H2.out) (by first | exact h2 | (rw [HNO.out]; exact h2)) H3K.out H3.out (by first | exact HD.out | (rw [← HNO.out]; exact HD.out)) HB7.out (by rw [HNO.out]; exact ho) hg hw HLO.out
        obtain ⟨na, nc, rfl⟩ := own_slice ho
        have HN := Lib.hid hgr
        have s2 := hS8.1
        refine hK.out _ _ hS8 (fun _ => ?_)
        clear hK K hgr ho hg hw C hpo m0 m1 m2 m3 m4 m5 h2 hS7
        refine wpAnyK_more [8, 9] 1 rfl (by intro _ _ d _ _ h; cases d <;> exact h) (by kernel_rfl) (by kernel_rfl) hS8 ?_
        (iterate 2 (first | (refine takes_yes (v := ?_) rfl (by rfl) ?_ ?_; rotate_left; (focus ((intro w' hS'; (try dsimp only at hS'); go_simp; try (with_reducible rfl)); done)); (try simp only [Act.put, List.setIfInBounds_toArray, List.set_cons_zero, List.set_cons_succ])) | (refine takes_no rfl (by rfl) ?_; (try simp only [Act.put, List.setIfInBounds_toArray, List.set_cons_zero, List.set_cons_succ]))))
        refine takes_nil ?_
        refine wpAnyK_last 10 (by kernel_rfl) (by kernel_rfl) rfl (fun K hK => ?_)
        go_simp
        refine hK.out _ _ ?_
        clear hK K
        refine wpAnyK_done (by kernel_rfl) ?_ _
        go_wp2
        refine bodyPost_ret (v := .tuple #[]) ?_ rfl ?_
        · simp [results, Tryz.results108, go_sem]
        refine ⟨rfl, ?_, ((hbw.trans HGR.out.2).trans HN.out.2)⟩
        rw [branchS_eq HE0.out HXI.out HAT.out HYY.out (n := n2) (by rw [HNN.out]; exact hn2) HU.out HT.out HX.out]
        exact HN.out.1
end Go.Proofs.YtdelpialeajajaaGreatDoor

/- The document's reader: behind a branch's end. -/
namespace Go.Proofs.YtdelpialeajajaaGreatDoor
open Go Go.RowKit
set_option maxRecDepth 10000

theorem own_pop {W : World} {base : Nat} {e : TypeId} {n c : Nat} {a : Option Addr} {xs : List Value} (h : W.ownsRow base e 1 (.slice a (n + 1) c) (n + 1) xs) : W.ownsRow base e 1 (.slice a n c) n (xs.take n) := by
  obtain ⟨h1, h2⟩ := h
  refine ⟨by simp at h1 ⊢; omega, ?_⟩
  rcases h2 with ⟨h2, _⟩ | ⟨g, cap, cur, hv, hg, hh, k1, k2, k3, k4⟩
  · cases h2
  · cases hv
    refine .inr ⟨g, _, cur, rfl, hg, hh, by omega, k2, k3, ?_⟩
    rw [← k4, List.take_take]
    congr 1
    omega

theorem own_cap {W : World} {base : Nat} {e : TypeId} {n c size : Nat} {a : Option Addr} {xs : List Value} (h : W.ownsRow base e size (.slice a n c) n xs) : n ≤ c := by
  rcases h.2 with ⟨h2, h3⟩ | ⟨g, cap, cur, hv, hg, hh, k1, k2, k3, k4⟩
  · cases h2
    exact Nat.zero_le _
  · cases hv
    exact k1

/-- what was opened last is closed -/
theorem ScanAt.pop {p : Nat} {s : ByteArray} {x : Sc} {w : World} {a : Option Addr} {n c : Nat} (h : ScanAt p s x w) (h3 : w.cell? ⟨p, 3, none⟩ = some (.slice a (n + 1) c)) (hn : x.opn.length = n + 1) :
    ScanAt p s { x with opn := x.opn.dropLast } (w.setCell ⟨p, 3, none⟩ (.slice a n c)) := by
  obtain ⟨h0, h1, ⟨v2, v3, h2, h2', h3a, h3', hd⟩, h4, h5, h6, h7, h8, h9, h10⟩ := h
  rw [h3] at h3a
  cases h3a
  rw [hn] at h3'
  have hp := own_pop h3'
  have e1 : (boolsC x.opn).take n = boolsC x.opn.dropLast := by
    unfold boolsC
    rw [← List.map_take, List.dropLast_eq_take, hn]
    rfl
  rw [e1] at hp
  refine ⟨by rw [cellSet, if_neg (by simp)]; exact h0, by rw [cellSet, if_neg (by simp)]; exact h1, ⟨v2, _, by rw [cellSet, if_neg (by simp)]; exact h2, ownsRow_setCell_below h2' (by show p < p + 1; omega) _, by rw [cellSet, if_pos rfl, h3]; rfl, ?_, ?_⟩,
    by rw [cellSet, if_neg (by simp)]; exact h4, by rw [cellSet, if_neg (by simp)]; exact h5, fun j => by rw [World.frozen?_setCell]; exact h6 j, h7, h8, h9, by simp; omega⟩
  · have e2 : ({ x with opn := x.opn.dropLast } : Sc).opn.length = n := by simp; omega
    rw [e2]
    exact ownsRow_setCell_below hp (by show p < p + 1; omega) _
  · intro g hg
    have := hd g hg
    cases a with
    | none => simp [Value.ownBlock]
    | some ad => exact this

/-- what follows a branch's end -/
def behindS (s : ByteArray) (x : Sc) : Sc :=
  let Y := blanksS s { x with opn := x.opn.dropLast }
  if byteAt s Y.i = some 125 then { Y with out := Y.out ++ [⟨41, [], [], [], [], Y.i⟩], i := Y.i + 1 } else branchS s Y (numS x)
theorem behind_yes {s : ByteArray} {x Y : Sc} {k : Nat} (hY : blanksS s { x with opn := x.opn.dropLast } = Y) (hk : Y.i = k) (h : byteAt s k = some 125) : behindS s x = { Y with out := Y.out ++ [⟨41, [], [], [], [], k⟩], i := k + 1 } := by
  subst hY hk
  exact if_pos h
theorem behind_no {s : ByteArray} {x Y : Sc} {k : Nat} {num : Bool} (hY : blanksS s { x with opn := x.opn.dropLast } = Y) (hk : Y.i = k) (hn : numS x = num) (h : ¬ byteAt s k = some 125) : behindS s x = branchS s Y num := by
  subst hY hk hn
  exact if_neg h

set_option maxHeartbeats 4000000 in
theorem scan_behind (p : Nat) (s : ByteArray) (x : Sc) (w : World) (h : ScanAt p s x w) (hne : x.opn ≠ []) (hr1 : x.out.length + 1 ≤ 1000000) :
    Calls Tryz.prog 72 #[.pointer (some ⟨p, 0, none⟩)] w (ScanQ p s (.tuple #[]) (behindS s x) w) := by
  have HH := Lib.hid h
  have HN := Lib.hid (scan_byNumber p s x w h)
  obtain ⟨num, hnum⟩ : ∃ b, numS x = b := ⟨_, rfl⟩
  rw [hnum] at HN
  have HNUM := Lib.hid hnum
  obtain ⟨n, hn⟩ : ∃ n, x.opn.length = n + 1 := ⟨x.opn.length - 1, by have := List.length_pos_iff.2 hne; omega⟩
  have hlo := h.lopn
  rw [hn] at hlo
  have HNN := Lib.hid hn
  clear h hnum hn hne
  go_enter Tryz.func72, Tryz.ntmps72
  go_wp2_with fail
  refine HN.out.mono ?_
  rintro e w1 ⟨rfl, hs1, hf1⟩
  have hw1 := hf1.below HH.out
  have HS1 := Lib.hid hs1
  obtain ⟨v2, v3, -, -, h3, h3', -⟩ := hs1.rows
  have z3 := hs1.z 3
  rw [HNN.out] at h3'
  obtain ⟨oa, oc, rfl⟩ := own_slice h3'
  have hcap : n + 1 ≤ oc := own_cap h3'
  have q1 : ((n + 1 : Nat) : Int) - 1 = (n : Int) := by omega
  have q2 : IntKind.i64.wrap (n : Int) = (n : Int) := by simp [IntKind.wrap, IntKind.signed, IntKind.bits]; omega
  have H3 := Lib.hid h3
  obtain ⟨n1, hn1⟩ : ∃ m, n + 1 = m := ⟨_, rfl⟩
  rw [hn1] at h3 hcap q1
  have HN1 := Lib.hid hn1
  have hnoc : n ≤ oc := by omega
  have hnoci : (n : Int) ≤ (oc : Int) := by omega
  clear h3' hs1 hf1 hn1
  go_wp2_with fail
  have hS0 : w1.drew.cell? ⟨p, 3, none⟩ = some (.slice oa (n1 : Nat) oc) := h3
  refine wp_region_takesK (fun W' : World => W'.cell? ⟨p, 3, none⟩ = some (.slice oa (n1 : Nat) oc)) 14 [0, 1, 2, 3, 4, 5, 6, 7, 8, 9, 10, 11, 12, 13] 1 (by intro _ _ d _ _ h; cases d <;> exact h) (by kernel_rfl) (by kernel_rfl) hS0 ?_
  (iterate 14 (first | (refine takes_yes (v := ?_) rfl (by rfl) ?_ ?_; rotate_left; (focus ((intro w' hS'; (try dsimp only at hS'); go_simp; try (with_reducible rfl)); done)); (try simp only [Act.put, List.setIfInBounds_toArray, List.set_cons_zero, List.set_cons_succ])) | (refine takes_no rfl (by rfl) ?_; (try simp only [Act.put, List.setIfInBounds_toArray, List.set_cons_zero, List.set_cons_succ]))))
  refine takes_nil ?_
  refine wpAnyK_last 14 (by kernel_rfl) (by kernel_rfl) rfl (fun K hK => ?_)
  go_simp
  refine hK.out _ _ ?_
  clear hK K
  refine wpAnyK_done (by kernel_rfl) ?_ _
  have hs2 := (HS1.out.pop H3.out HNN.out).below (Below.refl _ _).drew
  have hw2 := Lib.hid (below_put (b := p) (j := 3) (u := .slice oa n oc) hw1 (Nat.le_refl _)).drew
  obtain ⟨W2, hW2⟩ : ∃ X, (w1.setCell ⟨p, 3, none⟩ (.slice oa n oc)).drew = X := ⟨_, rfl⟩
  rw [hW2] at hs2 hw2
  try rw [hW2]
  have HX2 := Lib.hid (scan_blanks p s _ W2 hs2)
  have HS2 := Lib.hid hs2
  clear hW2 hS0 hs2 z3 h3
  go_wp2_with fail
  refine HX2.out.mono ?_
  rintro e w3 ⟨rfl, hs3, hf3⟩
  have hw3 := hw2.out.trans (hf3.below HS2.out)
  obtain ⟨Y, hY⟩ : ∃ Y, blanksS s { x with opn := x.opn.dropLast } = Y := ⟨_, rfl⟩
  rw [hY] at hs3
  have HY := Lib.hid hY
  have HYO := Lib.hid (show Y.out = x.out from hY ▸ rfl)
  have HYN := Lib.hid (show Y.opn.length = n by rw [← hY]; show x.opn.dropLast.length = n; have := HNN.out; simp; omega)
  have HS3 := Lib.hid hs3
  have c0 := hs3.c0
  have c1 := hs3.c1
  obtain ⟨k, hk⟩ : ∃ k, Y.i = k := ⟨_, rfl⟩
  rw [hk] at c1
  have HK := Lib.hid hk
  have hks := hs3.here
  have hsz := hs3.size
  rw [hk] at hks
  clear hs3 hf3 hk hY
  go_wp2_with fail
  have hS0 : w3.drew.cell? ⟨p, 0, none⟩ = some (.string s) ∧ w3.drew.cell? ⟨p, 1, none⟩ = some (.int .i64 (k : Nat)) := ⟨c0, c1⟩
  by_cases hlt2 : k < s.size
  · have k1 : decide ((k : Int) < (s.size : Int)) = true := by simp; omega
    have k1n : decide (k < s.size) = true := by simp; omega
    have k1' : (k : Int) < (s.size : Int) := by omega
    obtain ⟨d, hd⟩ : ∃ d, s[k] = d := ⟨_, rfl⟩
    by_cases hdc : d = 125
    · have j1 : ((d.toNat : Int) == 125) = true := by rw [hdc]; rfl
      have HE := Lib.hid (behind_yes HY.out HK.out (by rw [byteAt_lt hlt2, hd, hdc]))
      clear hdc
      refine wp_region_takes (fun W' : World => W'.cell? ⟨p, 0, none⟩ = some (.string s) ∧ W'.cell? ⟨p, 1, none⟩ = some (.int .i64 (k : Nat))) [0, 1, 2, 3, 4, 5, 6, 7, 8, 9, 10, 11, 12, 13, 14, 15, 16, 17, 18, 19, 20, 21] 0 (by intro _ _ d _ _ h; cases d <;> exact h) (by kernel_rfl) (by kernel_rfl) hS0 ?_
      (iterate 22 (first | (refine takes_yes (v := ?_) rfl (by rfl) ?_ ?_; rotate_left; (focus ((intro w' hS'; (try dsimp only at hS'); go_simp; try (with_reducible rfl)); done)); (try simp only [Act.put, List.setIfInBounds_toArray, List.set_cons_zero, List.set_cons_succ])) | (refine takes_no rfl (by rfl) ?_; (try simp only [Act.put, List.setIfInBounds_toArray, List.set_cons_zero, List.set_cons_succ]))))
      refine takes_nil ?_
      refine wpAnyH_done (by kernel_rfl) ?_ _
      have hs4 := HS3.out.below (Below.refl _ _).drew
      obtain ⟨W4, hW4⟩ : ∃ X, w3.drew = X := ⟨_, rfl⟩
      rw [hW4] at hs4 hS0
      have hb34 := hw3.drew
      rw [hW4] at hb34 ⊢
      have HS4 := Lib.hid hs4
      obtain ⟨v2, v3, h2, h2', h3, h3', hd⟩ := hs4.rows
      obtain ⟨xa, xc, rfl⟩ := own_slice h2'
      obtain ⟨no, hno⟩ : ∃ no, Y.out.length = no := ⟨_, rfl⟩
      have HNO := Lib.hid hno
      rw [hno] at h2 h2'
      have hlo2 : no + 1 ≤ 1000000 := by rw [← hno, HYO.out]; exact hr1
      have hc1 := hS0.2
      have hplt := hs4.lt
      have H2 := Lib.hid h2'
      have H3 := Lib.hid h3'
      have H3K := Lib.hid h3
      have HD := Lib.hid hd
      clear h2' h3' hd hno h3 hs4 hS0 hW4
      go_wp2_with fail
      have hS0 : W4.drew.cell? ⟨p, 2, none⟩ = some (.slice xa (no : Nat) xc) ∧ W4.drew.cell? ⟨p, 1, none⟩ = some (.int .i64 (k : Nat)) := ⟨h2, hc1⟩
      refine wp_region_takesK (fun W' : World => W'.cell? ⟨p, 2, none⟩ = some (.slice xa (no : Nat) xc) ∧ W'.cell? ⟨p, 1, none⟩ = some (.int .i64 (k : Nat))) 14 [0, 1, 2, 3, 4, 5, 6, 7, 8, 9] 5 (by intro _ _ d _ _ h; cases d <;> exact h) (by kernel_rfl) (by kernel_rfl) hS0 ?_
      (iterate 10 (first | (refine takes_yes (v := ?_) rfl (by rfl) ?_ ?_; rotate_left; (focus ((intro w' hS'; (try dsimp only at hS'); go_simp; try (with_reducible rfl)); done)); (try simp only [Act.put, List.setIfInBounds_toArray, List.set_cons_zero, List.set_cons_succ])) | (refine takes_no rfl (by rfl) ?_; (try simp only [Act.put, List.setIfInBounds_toArray, List.set_cons_zero, List.set_cons_succ]))))
      refine takes_nil ?_
      refine wpAnyK_only 10 (by kernel_rfl) rfl (fun K hK => ?_)
      go_simp
      obtain ⟨W7, hW7, hb7, hs7, hc7⟩ := laid_cells W4 [.int .u8 41, strv [], strv [], strv [], strv [], .int .i64 (k : Nat)] 61
      simp only [strv] at hW7 hc7
      rw [← hW7]
      clear hW7
      have hS7 : W7.cell? ⟨p, 2, none⟩ = some (.slice xa (no : Nat) xc) ∧ W7.cell? ⟨p, 1, none⟩ = some (.int .i64 (k : Nat)) := ⟨(hb7.cell (p := ⟨p, 2, none⟩) hplt).trans h2, (hb7.cell (p := ⟨p, 1, none⟩) hplt).trans hc1⟩
      refine hK.out _ _ hS7 (fun _ => ?_)
      clear hK K hS0
      have HB7 := Lib.hid hb7
      have HC7 := Lib.hid hc7
      clear hb7 hc7
      refine wpAnyK_only 11 (by kernel_rfl) rfl (fun K hK => ?_)
      rw [if_pos (by rfl)]
      refine app_op elem_marks _ _ rfl (p + 1) _ no (marksC Y.out) rfl (own_below H2.out HB7.out) ⟨W4.heap.size, 0, none⟩ 1 1 (markV ⟨41, [], [], [], [], k⟩) rfl rfl HC7.out ?x1 (by omega) (by omega) ?x2
      case x1 =>
        intro u hu
        simp [markV] at hu
        rcases hu with rfl | rfl | rfl | rfl | rfl | rfl <;> rfl
      intro v' w' ho hg hw
      have hpo : some p ≠ (Value.slice xa no xc).ownBlock := fun e => Nat.lt_irrefl _ (H2.out.lt p e.symm).1
      have hS8 : w'.cell? ⟨p, 2, none⟩ = some (.slice xa (no : Nat) xc) ∧ w'.cell? ⟨p, 1, none⟩ = some (.int .i64 (k : Nat)) := ⟨hg.cell hS7.1 hpo, hg.cell hS7.2 hpo⟩
      have C := HS4.out.cells5 HB7.out hg (fun g e => (H2.out.lt g e).1)
      have z2 := C.z 2
      have z1 := C.z 1
      have hgr := HS4.out.grow2 (m := ⟨41, [], [], [], [], k⟩) (by rw [HNO.out]; exact H2.out) h2 H3K.out H3.out (by first | exact HD.out | (rw [← HNO.out]; exact HD.out)) HB7.out (by rw [HNO.out]; exact ho) hg hw (by rw [HNO.out]; exact hlo2)
      obtain ⟨na, nc, rfl⟩ := own_slice ho
      have HG := Lib.hid hgr
      have s1 := hS8.2
      have s2 := hS8.1
      refine hK.out _ _ hS8 (fun _ => ?_)
      clear hK K hgr ho hg hw C hpo h2 hS7
      refine wpAnyK_more [12, 13] 1 rfl (by intro _ _ d _ _ h; cases d <;> exact h) (by kernel_rfl) (by kernel_rfl) hS8 ?_
      (iterate 2 (first | (refine takes_yes (v := ?_) rfl (by rfl) ?_ ?_; rotate_left; (focus ((intro w' hS'; (try dsimp only at hS'); go_simp; try (with_reducible rfl)); done)); (try simp only [Act.put, List.setIfInBounds_toArray, List.set_cons_zero, List.set_cons_succ])) | (refine takes_no rfl (by rfl) ?_; (try simp only [Act.put, List.setIfInBounds_toArray, List.set_cons_zero, List.set_cons_succ]))))
      refine takes_nil ?_
      refine wpAnyK_last 14 (by kernel_rfl) (by kernel_rfl) rfl (fun K hK => ?_)
      go_simp
      refine hK.out _ _ ?_
      clear hK K
      refine wpAnyK_done (by kernel_rfl) ?_ _
      go_wp2
      refine bodyPost_ret (v := .tuple #[]) ?_ rfl ?_
      · simp [results, Tryz.results72, go_sem]
      rw [HE.out]
      exact ⟨rfl, HG.out.1.put1 (k + 1) (by omega), below_put (hb34.trans HG.out.2) (Nat.le_refl _)⟩
    · have j1 : ((d.toNat : Int) == 125) = false := byte_ne hdc
      have HE := Lib.hid (behind_no HY.out HK.out HNUM.out (by rw [byteAt_lt hlt2, hd]; simp [hdc]))
      clear hdc
      refine wp_region_takes (fun W' : World => W'.cell? ⟨p, 0, none⟩ = some (.string s) ∧ W'.cell? ⟨p, 1, none⟩ = some (.int .i64 (k : Nat))) [0, 1, 2, 3, 4, 5, 6, 7, 8, 9, 10, 11, 12, 13, 14, 15, 16, 17, 18, 19, 20, 21] 0 (by intro _ _ d _ _ h; cases d <;> exact h) (by kernel_rfl) (by kernel_rfl) hS0 ?_
      (iterate 22 (first | (refine takes_yes (v := ?_) rfl (by rfl) ?_ ?_; rotate_left; (focus ((intro w' hS'; (try dsimp only at hS'); go_simp; try (with_reducible rfl)); done)); (try simp only [Act.put, List.setIfInBounds_toArray, List.set_cons_zero, List.set_cons_succ])) | (refine takes_no rfl (by rfl) ?_; (try simp only [Act.put, List.setIfInBounds_toArray, List.set_cons_zero, List.set_cons_succ]))))
      refine takes_nil ?_
      refine wpAnyH_done (by kernel_rfl) ?_ _
      obtain ⟨W4, hW4⟩ : ∃ X, w3.drew = X := ⟨_, rfl⟩
      have hs4 := HS3.out.below (Below.refl _ _).drew
      have hb34 := hw3.drew
      rw [hW4] at hs4 hb34 ⊢
      clear hW4 hS0 c0 c1 hw3 HS3
      have HS3 := Lib.hid hs4
      have hw3 := hb34
      clear hs4 hb34
      go_wp2_with fail
      refine (scan_branch p s Y num W4 HS3.out (by rw [HYO.out]; exact hr1) (by rw [HYN.out]; omega)).mono ?_
      rintro e w4 ⟨rfl, hs4, hb4⟩
      have HS4 := Lib.hid hs4
      have HW4 := Lib.hid (hw3.trans hb4)
      clear hs4 hb4
      go_wp2
      refine bodyPost_ret (v := .tuple #[]) ?_ rfl ?_
      · simp [results, Tryz.results72, go_sem]
      rw [HE.out]
      exact ⟨rfl, HS4.out, HW4.out⟩
  · have k1 : decide ((k : Int) < (s.size : Int)) = false := by simp; omega
    have k1n : decide (k < s.size) = false := by simp; omega
    have HE := Lib.hid (behind_no HY.out HK.out HNUM.out (by rw [byteAt_end hlt2]; simp))
    refine wp_region_takes (fun W' : World => W'.cell? ⟨p, 0, none⟩ = some (.string s) ∧ W'.cell? ⟨p, 1, none⟩ = some (.int .i64 (k : Nat))) [0, 1, 2, 3, 4, 5, 6, 7, 8, 9, 10, 11, 12, 13, 14, 15, 16, 17, 18, 19, 20, 21] 0 (by intro _ _ d _ _ h; cases d <;> exact h) (by kernel_rfl) (by kernel_rfl) hS0 ?_
    (iterate 22 (first | (refine takes_yes (v := ?_) rfl (by rfl) ?_ ?_; rotate_left; (focus ((intro w' hS'; (try dsimp only at hS'); go_simp; try (with_reducible rfl)); done)); (try simp only [Act.put, List.setIfInBounds_toArray, List.set_cons_zero, List.set_cons_succ])) | (refine takes_no rfl (by rfl) ?_; (try simp only [Act.put, List.setIfInBounds_toArray, List.set_cons_zero, List.set_cons_succ]))))
    refine takes_nil ?_
    refine wpAnyH_done (by kernel_rfl) ?_ _
    obtain ⟨W4, hW4⟩ : ∃ X, w3.drew = X := ⟨_, rfl⟩
    have hs4 := HS3.out.below (Below.refl _ _).drew
    have hb34 := hw3.drew
    rw [hW4] at hs4 hb34 ⊢
    clear hW4 hS0 c0 c1 hw3 HS3
    have HS3 := Lib.hid hs4
    have hw3 := hb34
    clear hs4 hb34
    go_wp2_with fail
    refine (scan_branch p s Y num W4 HS3.out (by rw [HYO.out]; exact hr1) (by rw [HYN.out]; omega)).mono ?_
    rintro e w4 ⟨rfl, hs4, hb4⟩
    have HS4 := Lib.hid hs4
    have HW4 := Lib.hid (hw3.trans hb4)
    clear hs4 hb4
    go_wp2
    refine bodyPost_ret (v := .tuple #[]) ?_ rfl ?_
    · simp [results, Tryz.results72, go_sem]
    rw [HE.out]
    exact ⟨rfl, HS4.out, HW4.out⟩
end Go.Proofs.YtdelpialeajajaaGreatDoor
