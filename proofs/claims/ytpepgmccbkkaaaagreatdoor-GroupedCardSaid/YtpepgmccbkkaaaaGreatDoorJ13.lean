import Derived.Test.YtpepgmccbkkaaaaGreatDoorJ12
import Derived.Test.YtpepgmccbkkaaaaGreatDoorCards
import Derived.Test.YtpepgmccbkkaaaaGreatDoorTie
import Derived.ProofKit
import Derived.OpenShut
import Derived.Deep.DeepHandedRow
import Derived.Deep.DeepWitnessRowRef
import Derived.Lib.LaidU8
import Derived.Lib.LaidIn
import Derived.LaidHandle
import Derived.LaidLaws
import Derived.PinnedBridge
import Derived.Deep.QuietTactic
import Derived.BigQuiet
import Derived.StillTailTactics

/- What the rows' lists of package-level variables give: the tables' cells; a world that holds them (for the witness). -/
namespace Go.Proofs.YtpepgmccbkkaaaaGreatDoor
open Go.ChangeShapes Go.WideShapes Go.ChangeAt Go.RowKit Go.Lib

theorem own : ownKnob Tryz.prog.godebug = none := by kernel_rfl
theorem etG : Tryz.prog.globalNamed "errors.errorType" = some 0 := by kernel_rfl
theorem rtT : (Tryz.prog.cutTypes.find? (·.1 == "internal/reflectlite.rtype")).map (·.2) = some 132 := by kernel_rfl
theorem errRow : ((List.range Tryz.prog.types.size).filter fun t => Tryz.prog.rowNamed t [101, 114, 114, 111, 114]) = [48] := by kernel_rfl

/-- what all rows of this seat list -/
abbrev listed : List (String × DataW Unit) := Rows.numbersRow.laid
/-- the list without the handle -/
abbrev laidL : List (String × DataW Unit) := listed.filter fun x => x.2.handleName?.isNone

theorem met_parts {W : World} (h : laidMetH Tryz.prog listed W) : laidMet Tryz.prog laidL W ∧ handlesMet Tryz.prog [("errors.errorType", Rows.laid_errors_errorType)] W := h

theorem errT_of {W : World} (h : laidMetH Tryz.prog listed W) : ErrT W := by
  obtain ⟨name, u, ty, e1, e2, e3, e4, e5⟩ := (met_parts h).2 _ (List.mem_singleton.2 rfl)
  have en : name = [101, 114, 114, 111, 114] := (Option.some.inj e1).symm
  subst en
  obtain rfl := Option.some.inj (rtT.symm.trans e2)
  have hm : ty ∈ (List.range Tryz.prog.types.size).filter fun t => Tryz.prog.rowNamed t [101, 114, 114, 111, 114] := List.mem_filter.2 ⟨List.mem_range.2 e3, e4⟩
  rw [errRow] at hm
  obtain rfl := List.mem_singleton.1 hm
  have hh : typeHandle Tryz.prog 48 = hdl 48 := by kernel_rfl
  rw [hh] at e5
  unfold ErrT
  simpa using World.var?_cell etG e5 0

theorem mem_first : ("unicode/utf8.first", Rows.laid_unicode_utf8_first) ∈ laidL := List.mem_filter.2 ⟨.tail _ (.tail _ (.tail _ (.tail _ (.tail _ (.tail _ (.tail _ (.tail _ (.head _)))))))), by kernel_rfl⟩
theorem mem_accept : ("unicode/utf8.acceptRanges", Rows.laid_unicode_utf8_acceptRanges) ∈ laidL := List.mem_filter.2 ⟨.tail _ (.tail _ (.tail _ (.head _))), by kernel_rfl⟩
theorem first_eq : Rows.laid_unicode_utf8_first = firstData := Pinned.utf8First_eq
theorem accept_eq : (Rows.laid_unicode_utf8_acceptRanges : DataW Unit) = acceptData := by kernel_rfl
theorem gFirst : Tryz.prog.globalNamed "unicode/utf8.first" = some 2 := by kernel_rfl
theorem gFirstT : (Tryz.prog.globals[2]?).map (·.type) = some 122 := by kernel_rfl
theorem gAccept : Tryz.prog.globalNamed "unicode/utf8.acceptRanges" = some 3 := by kernel_rfl
theorem gAcceptT : (Tryz.prog.globals[3]?).map (·.type) = some 125 := by kernel_rfl
theorem cU8 : Tryz.prog.cellsOf 5 = 1 := by kernel_rfl
theorem cFirst : Tryz.prog.cellsOf 122 = 256 := by kernel_rfl
theorem cRange : Tryz.prog.cellsOf 124 = 2 := by kernel_rfl

theorem utf8_of {W : World} (h : laidMetH Tryz.prog listed W) : Lib.Utf8Tabs 2 3 W := by
  have hm := (met_parts h).1
  have h3 := Lib.laidMet.reads hm mem_first
  rw [first_eq] at h3
  have h4 := Lib.laidMet.reads hm mem_accept
  rw [accept_eq] at h4
  constructor
  · intro c hc
    obtain ⟨g, t, cs, fuel, p, hg, hty, hvar, hd⟩ := h3
    obtain rfl := Option.some.inj (gFirst.symm.trans hg)
    obtain rfl := Option.some.inj (gFirstT.symm.trans hty)
    have hcs := cells_of_tab Tryz.underlying122 Tryz.underlying5 cU8 cFirst hd
    rw [World.var?_cell hg hvar c, ← Array.getElem?_toList, hcs]
    simp [firstTab, hc]
  · intro i hi
    obtain ⟨g, t, cs, fuel, p, hg, hty, hvar, hd⟩ := h4
    obtain rfl := Option.some.inj (gAccept.symm.trans hg)
    obtain rfl := Option.some.inj (gAcceptT.symm.trans hty)
    obtain ⟨fuel2, d, q, hdi, he⟩ := array_elem Tryz.underlying125 hd i hi
    simp only [List.getElem?_map, List.getElem?_range hi, Option.map_some, Option.some.injEq] at hdi
    subst hdi
    rw [cRange] at he
    have hcs := ints_of_struct Tryz.underlying124 (fun j f hj => by
      match j, hj with
      | 0, hj => simp at hj; subst hj; exact ⟨Tryz.underlying5, rfl, cU8⟩
      | 1, hj => simp at hj; subst hj; exact ⟨Tryz.underlying5, rfl, cU8⟩
      | j + 2, hj => simp at hj) (by rw [cRange]; rfl) he
    have e0 := congrArg (·[0]?) hcs
    have e1 := congrArg (·[1]?) hcs
    simp only [List.getElem?_take, List.getElem?_drop] at e0 e1
    refine ⟨?_, ?_⟩
    · rw [World.var?_cell hg hvar (2 * i), ← Array.getElem?_toList]
      simpa [Nat.mul_comm] using e0
    · rw [World.var?_cell hg hvar (2 * i + 1), ← Array.getElem?_toList]
      simpa [Nat.mul_comm] using e1

theorem tabs_of {W : World} (h : laidMetH Tryz.prog listed W) : Tabs W := ⟨utf8_of h, errT_of h⟩

/-- a datum's cells -/
def flatD : Nat → DataW Unit → List Value
  | 0, _ => []
  | _ + 1, .lit (.int k z) => [.int k z]
  | _ + 1, .lit (.string b) => [.string ⟨b.toArray⟩]
  | n + 1, .agg parts => parts.flatMap (flatD n)
  | _, _ => []

/-- A world for the witness: the settled one, each listed variable holding what its initialiser lays, and the two sentinels' own blocks. -/
noncomputable def laidWorld (os : Os) : World :=
  let N := (World.settled Tryz.prog os).heap.size
  let w0 := World.holding Tryz.prog os ⟨#[.cells #[.string ⟨#[118, 97, 108, 117, 101, 32, 111, 117, 116, 32, 111, 102, 32, 114, 97, 110, 103, 101]⟩] 226, .cells #[.string ⟨#[105, 110, 118, 97, 108, 105, 100, 32, 115, 121, 110, 116, 97, 120]⟩] 226], #[], []⟩
  let put (h : Array Obj) (g : Nat) (cs : List Value) : Array Obj := h.modify g fun
    | .cells _ t frozen => .cells cs.toArray t frozen
    | o => o
  let h1 := put w0.heap 0 [.iface 132 (.agg #[hdl 48])]
  let h2 := put h1 1 (flatD 3 Rows.laid_phrases_plural_Names)
  let h3 := put h2 2 (flatD 3 Rows.laid_unicode_utf8_first)
  let h4 := put h3 3 (flatD 3 Rows.laid_unicode_utf8_acceptRanges)
  let h5 := put h4 6 [.iface 224 (.pointer (some ⟨N, 0, none⟩))]
  let h6 := put h5 5 [.iface 224 (.pointer (some ⟨N + 1, 0, none⟩))]
  let h7 := put h6 7 (flatD 3 Rows.laid_internal_strconv_uint64pow10)
  let h8 := put h7 8 (flatD 3 Rows.laid_math_bits_deBruijn32tab)
  let h9 := put h8 9 (flatD 3 Rows.laid_math_bits_deBruijn64tab)
  { w0 with heap := h9 }

set_option maxRecDepth 1000000 in
theorem laid_met (os : Os) (args : Array Value) : laidMetH Tryz.prog listed ((laidWorld os).forCall (fun _ _ => 0) ⟨#[], args, []⟩).memory :=
  laidMetH_of_parts (laidMet_of_run' 8 (by kernel_rfl) (by kernel_rfl)) (by kernel_rfl)
end Go.Proofs.YtpepgmccbkkaaaaGreatDoor

/- The document's rules: kinds of bytes, figures, small numbers; lists of words in memory. -/
namespace Go.Proofs.YtpepgmccbkkaaaaGreatDoor
open Go Go.RowKit
set_option maxRecDepth 10000

/-- a byte's kind: 1 a small letter, 2 a digit, 3 a blank, 0 any other -/
def kindL (c : UInt8) : Nat := if 97 ≤ c.toNat ∧ c.toNat ≤ 122 then 1 else if 48 ≤ c.toNat ∧ c.toNat ≤ 57 then 2 else if c.toNat = 32 then 3 else 0

set_option maxHeartbeats 1000000 in
theorem kind_any (c : UInt8) (w : World) : Calls Tryz.prog 79 #[.int .u8 c.toNat] w fun e w' => e = .returned (.int .i64 (kindL c)) ∧ w = w' := by
  have hlt := c.toNat_lt
  obtain ⟨n, hn⟩ : ∃ n, n = c.toNat := ⟨_, rfl⟩
  have HN := Lib.hid hn
  rw [← hn] at hlt ⊢
  by_cases h1 : 97 ≤ n ∧ n ≤ 122
  · have hf : kindL c = 1 := by unfold kindL; rw [← hn, if_pos h1]
    have HF := Lib.hid hf
    have a1 : decide ((97 : Int) ≤ (n : Int)) = true := by simp; omega
    have a2 : decide ((n : Int) ≤ (122 : Int)) = true := by simp; omega
    clear hn hf
    go_enter Tryz.func79, Tryz.ntmps79
    go_wp2
    all_goals (first | (exfalso; omega) | (go_ret; exact ⟨by rw [HF.out]; rfl, rfl⟩))
  · by_cases h2 : 48 ≤ n ∧ n ≤ 57
    · have hf : kindL c = 2 := by unfold kindL; rw [← hn, if_neg h1, if_pos h2]
      have HF := Lib.hid hf
      clear hn hf
      go_enter Tryz.func79, Tryz.ntmps79
      go_wp2
      all_goals (first | (exfalso; omega) | (go_ret; exact ⟨by rw [HF.out]; rfl, rfl⟩))
    · by_cases h3 : n = 32
      · have hf : kindL c = 3 := by unfold kindL; rw [← hn, if_neg h1, if_neg h2, if_pos h3]
        have HF := Lib.hid hf
        subst h3
        clear hn hf
        go_enter Tryz.func79, Tryz.ntmps79
        go_wp2
        all_goals (first | (exfalso; omega) | (go_ret; exact ⟨by rw [HF.out]; rfl, rfl⟩))
      · have hf : kindL c = 0 := by unfold kindL; rw [← hn, if_neg h1, if_neg h2, if_neg h3]
        have HF := Lib.hid hf
        have a3 : ((n : Int) == 32) = false := by simp; omega
        clear hn hf
        go_enter Tryz.func79, Tryz.ntmps79
        go_wp2
        all_goals (first | (exfalso; omega) | (go_ret; exact ⟨by rw [HF.out]; rfl, rfl⟩))

/-- is it a rule's number? -/
def figB (l : List UInt8) : Bool := numeralsL l && (decide (l.length ≤ 9) && (decide (l.length = 1) || decide (l.headD 0 ≠ 48)))

/-- the value of digits -/
def valL (l : List UInt8) : Nat := l.foldl (fun v c => 10 * v + (c.toNat - 48)) 0

theorem valL_snoc (l : List UInt8) (c : UInt8) : valL (l ++ [c]) = 10 * valL l + (c.toNat - 48) := by simp [valL]

theorem valL_lt : ∀ (l : List UInt8), l.all isDig = true → valL l < 10 ^ l.length := by
  intro l
  induction hn : l.length generalizing l with
  | zero => intro _; have := List.eq_nil_of_length_eq_zero hn; subst this; simp [valL]
  | succ n ih =>
    intro h
    have hne : l ≠ [] := fun q => by rw [q] at hn; cases hn
    obtain ⟨t, c, rfl⟩ : ∃ t c, l = t ++ [c] := ⟨l.dropLast, l.getLast hne, by rw [List.dropLast_concat_getLast]⟩
    rw [List.all_append, Bool.and_eq_true] at h
    have hc : isDig c = true := by simpa using h.2
    have hd := (isDig_iff c).1 hc
    have hl : t.length = n := by simpa using hn
    have := ih t hl h.1
    rw [valL_snoc, Nat.pow_succ]
    omega

/-- a list of texts in memory -/
def StrsAt (w : World) (v : Value) (ws : List (List UInt8)) : Prop := ∃ a cap, v = .slice a ws.length cap ∧ ws.length ≤ cap ∧ cap ≤ maxLen ∧ (a = none → cap = 0) ∧ ∀ j (h : j < ws.length), ∃ b, a = some b ∧ w.cell? (b.add j) = some (strv ws[j])

theorem StrsAt.below {w w' : World} {v : Value} {ws : List (List UInt8)} (h : StrsAt w v ws) (hb : Below w.heap.size w w') : StrsAt w' v ws := by
  obtain ⟨a, cap, hv, hl, hm, h0, hc⟩ := h
  refine ⟨a, cap, hv, hl, hm, h0, fun j hj => ?_⟩
  obtain ⟨b, hb1, hb2⟩ := hc j hj
  refine ⟨b, hb1, ?_⟩
  rw [hb.cell (World.block_lt_of_cell? w _ hb2)]
  exact hb2

theorem StrsAt.of_own {w : World} {base n : Nat} {e : TypeId} {v : Value} {ws : List (List UInt8)} (h : w.ownsRow base e 1 v n (ws.map strv)) : StrsAt w v ws := by
  have hlen : ws.length = n := by have := h.1; simpa using this
  rcases h.2 with ⟨hv, h0⟩ | ⟨g, cap, cur, hv, _, hh, h1, h2, _, ht⟩
  · subst h0
    have : ws = [] := List.eq_nil_of_length_eq_zero hlen
    subst this
    exact ⟨none, 0, hv, Nat.le_refl _, Nat.zero_le _, fun _ => rfl, fun j h => absurd h (Nat.not_lt_zero j)⟩
  · refine ⟨some ⟨g, 0, none⟩, cap, by rw [hv, hlen], by omega, h2, (fun h => by cases h), fun j hj => ⟨_, rfl, ?_⟩⟩
    subst hv
    rw [addr_add0, h.cellAt j (by omega)]
    simp [hj]

/-- a cell of a row of the call's own is written -/
theorem own_put {w : World} {base n : Nat} {e : TypeId} {g cap : Nat} {xs : List Value} (h : w.ownsRow base e 1 (.slice (some ⟨g, 0, none⟩) n cap) n xs) (j : Nat) (hj : j < n) (u : Value) :
    (w.setCell ⟨g, j, none⟩ u).ownsRow base e 1 (.slice (some ⟨g, 0, none⟩) n cap) n (xs.set j u) := by
  have hx : xs.length = n := by have := h.1; simpa using this
  refine ⟨by simp [hx], ?_⟩
  rcases h.2 with ⟨hv, _⟩ | ⟨g2, cap2, cur, hv, hg, hh, h1, h2, h3, ht⟩
  · cases hv
  · simp only [Value.slice.injEq, Option.some.injEq, Addr.mk.injEq] at hv
    obtain ⟨⟨rfl, -⟩, -, rfl⟩ := hv
    refine .inr ⟨g, cap, cur.setIfInBounds j u, rfl, hg, ?_, h1, h2, by simpa using h3, ?_⟩
    · simp [World.setCell, Array.getElem?_modify, hh]
    · rw [Array.toList_setIfInBounds, ← ht, List.take_set]
end Go.Proofs.YtpepgmccbkkaaaaGreatDoor

/- The document's rules: figures, small numbers, words. -/
namespace Go.Proofs.YtpepgmccbkkaaaaGreatDoor
open Go Go.RowKit
set_option maxRecDepth 10000

theorem figB_eq (s : ByteArray) (h0 : 0 < s.size) : figB s.data.toList = (numeralsL s.data.toList && (decide (s.size ≤ 9) && (decide (s.size = 1) || decide (s[0] ≠ 48)))) := by
  unfold figB
  rw [size_toList]
  have : s.data.toList.headD 0 = s[0] := by
    have hl : 0 < s.data.toList.length := by simpa using h0
    rw [← getElem_toList s 0 h0, List.headD_eq_head?_getD, List.head?_eq_getElem?, List.getElem?_eq_getElem hl]
    rfl
  rw [this]

set_option maxHeartbeats 2000000 in
theorem figure_any (s : ByteArray) (w : World) (hs : s.size ≤ 1000000) : Calls Tryz.prog 81 #[.string s] w fun e w' => e = .returned (.tuple #[.string s, .bool (figB s.data.toList)]) ∧ ∃ n, w' = w.drewN n := by
  cases hn : numeralsL s.data.toList
  · have hf : figB s.data.toList = false := by unfold figB; rw [hn]; rfl
    have HF := Lib.hid hf
    have HN := Lib.hid hn
    clear hf hn
    go_enter Tryz.func81, Tryz.ntmps81
    go_wp2_with fail
    refine (numerals_any s _ (by omega)).mono ?_
    rw [HN.out]
    rintro e w1 ⟨rfl, rfl⟩
    go_wp2_with fail
    go_quiet (fail)
    go_wp2
    go_ret2
    exact ⟨by rw [HF.out]; rfl, nq, rfl⟩
  · have h0 : 0 < s.size := by
      simp only [numeralsL, Bool.and_eq_true] at hn
      have := hn.2
      rw [isEmpty_toList] at this
      rcases Nat.eq_zero_or_pos s.size with h | h
      · rw [h] at this; cases this
      · exact h
    have hf := figB_eq s h0
    rw [hn] at hf
    by_cases h9 : s.size ≤ 9
    · have h9' : decide ((s.size : Int) ≤ 9) = true := by simp; omega
      by_cases h1 : s.size = 1
      · have hf2 : figB s.data.toList = true := by rw [hf]; simp [h9, h1]
        have HF := Lib.hid hf2
        have HN := Lib.hid hn
        have h1' : ((s.size : Int) == 1) = true := by simp; omega
        clear hf hf2 hn h1
        go_enter Tryz.func81, Tryz.ntmps81
        go_wp2_with fail
        refine (numerals_any s _ (by omega)).mono ?_
        rw [HN.out]
        rintro e w1 ⟨rfl, rfl⟩
        go_wp2_with fail
        go_quiet (fail)
        go_wp2
        go_ret2
        exact ⟨by rw [HF.out]; rfl, nq, rfl⟩
      · have h1' : ((s.size : Int) == 1) = false := by simp; omega
        have hne : ((s[0].toNat : Int) != 48) = decide (s[0] ≠ 48) := by
          have := toNat_beq s[0] 48
          rw [bne, show ((48 : Int)) = (((48 : UInt8).toNat : Nat) : Int) from rfl, this]
          simp
        have hf2 : figB s.data.toList = decide (s[0] ≠ 48) := by rw [hf]; simp [h9, h1]
        rw [← hne] at hf2
        have HF := Lib.hid hf2
        have HN := Lib.hid hn
        clear hf hf2 hn h1 hne
        go_enter Tryz.func81, Tryz.ntmps81
        go_wp2_with fail
        refine (numerals_any s _ (by omega)).mono ?_
        rw [HN.out]
        rintro e w1 ⟨rfl, rfl⟩
        go_wp2_with fail
        go_quiet (fail)
        go_wp2
        go_ret2
        exact ⟨by rw [HF.out]; rfl, nq, rfl⟩
    · have h9' : decide ((s.size : Int) ≤ 9) = false := by simp; omega
      have hf2 : figB s.data.toList = false := by rw [hf]; simp [h9]
      have HF := Lib.hid hf2
      have HN := Lib.hid hn
      clear hf hf2 hn
      go_enter Tryz.func81, Tryz.ntmps81
      go_wp2_with fail
      refine (numerals_any s _ (by omega)).mono ?_
      rw [HN.out]
      rintro e w1 ⟨rfl, rfl⟩
      go_wp2_with fail
      go_quiet (fail)
      go_wp2
      go_ret2
      exact ⟨by rw [HF.out]; rfl, nq, rfl⟩

theorem all_dig_at {s : ByteArray} (h : s.data.toList.all isDig = true) (k : Nat) (hk : k < s.size) : isDig s[k] = true := by
  rw [← getElem_toList s k hk]
  exact List.all_eq_true.1 h _ (List.getElem_mem _)

theorem take_all_dig {l : List UInt8} (h : l.all isDig = true) (k : Nat) : (l.take k).all isDig = true := by
  rw [List.all_eq_true] at h ⊢
  exact fun c hc => h c (List.mem_of_mem_take hc)

theorem valL_small (l : List UInt8) (k : Nat) (h : l.all isDig = true) (hl : l.length ≤ 9) : valL (l.take k) < 1000000000 := by
  have h1 := valL_lt (l.take k) (take_all_dig h k)
  have h2 : (l.take k).length ≤ 9 := by simp; omega
  have : 10 ^ (l.take k).length ≤ 10 ^ 9 := Nat.pow_le_pow_right (by decide) h2
  omega

set_option maxHeartbeats 1000000 in
theorem small_any (s : ByteArray) (w : World) (hs : s.size ≤ 9) (hd : s.data.toList.all isDig = true) : Calls Tryz.prog 82 #[.string s] w fun e w' => e = .returned (.int .i64 (valL s.data.toList)) ∧ w = w' := by
  have HV := Lib.hid (fun k => valL_small s.data.toList k hd (by rw [size_toList]; exact hs))
  go_enter Tryz.func82, Tryz.ntmps82
  go_wp2
  go_loop [3, 4] (fun v i => ∃ k : Nat, k ≤ s.size ∧ i = .int .i64 k ∧ v = .int .i64 (valL (s.data.toList.take k))) (fun _ i => s.size - (intOf i).toNat)
  case atStart => exact ⟨0, by omega, rfl, rfl⟩
  case round =>
    obtain ⟨k, hk, rfl, rfl⟩ := hrel
    have hv := HV.out k
    by_cases hlt : k < s.size
    · have hc := (isDig_iff _).1 (all_dig_at hd k hlt)
      have hsn : valL (s.data.toList.take (k + 1)) = 10 * valL (s.data.toList.take k) + (s[k].toNat - 48) := by rw [take_snoc s k hlt, valL_snoc]
      have HS := Lib.hid hsn
      clear hsn
      obtain ⟨x, hx⟩ : ∃ x, x = valL (s.data.toList.take k) := ⟨_, rfl⟩
      rw [← hx] at hv HS ⊢
      clear hx
      go_wp2
      go_round
      case rel => exact ⟨k + 1, by omega, by go_num, by rw [HS.out]; go_num⟩
      case measure => simp [intOf]; omega
    · obtain rfl : k = s.size := by omega
      go_wp2
      go_ret
      rw [take_all]
      exact ⟨rfl, rfl⟩
end Go.Proofs.YtpepgmccbkkaaaaGreatDoor
