import Derived.Test.YtkhdbolnhcfgkaaGreatDoorProg
import Derived.WalkKit
import Derived.WalkLawsBesides
import Derived.WalkSpells
import Derived.Deep.QuietTactic
import Derived.BigQuiet
import Derived.Lib.Hide
import Derived.StillTailTactics
import Derived.Deep.RegionHeld3
import Derived.IntWalk
import Derived.Laws.IdiomStrings
import Derived.OwnWalk
import Derived.Deep.RegionHeld
import Derived.Deep.DeepAppendRoom

/- Base: what all my texts import, and small lemmas on bytes and lists. -/
namespace Go.Proofs.YtkhdbolnhcfgkaaGreatDoor
open Go Go.RowKit

/-- a byte that is a digit -/
def isDig (c : UInt8) : Bool := 48 ≤ c && c ≤ 57

theorem ret_val {a b : Value} (h : a = b) : Ending.returned a = .returned b := by rw [h]

theorem getElem_toList (s : ByteArray) (k : Nat) (h : k < s.size) : s.data.toList[k]'(by simpa using h) = s[k] := by
  simp [ByteArray.getElem_eq_getElem_data]

theorem size_toList (s : ByteArray) : s.data.toList.length = s.size := by simp

theorem take_all (s : ByteArray) : s.data.toList.take s.size = s.data.toList := List.take_of_length_le (by simp)

theorem take_snoc (s : ByteArray) (k : Nat) (h : k < s.size) : s.data.toList.take (k + 1) = s.data.toList.take k ++ [s[k]] := by
  rw [List.take_succ_eq_append_getElem (by simpa using h), getElem_toList s k h]

theorem isDig_iff (c : UInt8) : isDig c = true ↔ (48 : Int) ≤ (c.toNat : Int) ∧ (c.toNat : Int) ≤ 57 := by
  simp [isDig, UInt8.le_iff_toNat_le]; omega

theorem isDig_false (c : UInt8) : isDig c = false ↔ ((c.toNat : Int) < 48 ∨ (57 : Int) < (c.toNat : Int)) := by
  rw [← Bool.not_eq_true, isDig_iff]; omega

theorem all_snoc {p : UInt8 → Bool} {l : List UInt8} {c : UInt8} (h : l.all p = true) (hc : p c = true) : (l ++ [c]).all p = true := by
  simp [List.all_append, h, hc]

theorem all_false_of {p : UInt8 → Bool} (s : ByteArray) (k : Nat) (hk : k < s.size) (hc : p s[k] = false) : s.data.toList.all p = false := by
  rw [List.all_eq_false]
  exact ⟨s[k], by rw [← getElem_toList s k hk]; exact List.getElem_mem _, by simp [hc]⟩

theorem isEmpty_toList (s : ByteArray) : s.data.toList.isEmpty = decide (s.size = 0) := by
  rw [Bool.eq_iff_iff, List.isEmpty_iff_length_eq_zero]; simp

/-- a piece of a text, as a list of bytes -/
theorem extract_eq (s : ByteArray) (a b : Nat) : s.extract a b = ⟨((s.data.toList.drop a).take (b - a)).toArray⟩ := by
  apply ByteArray.ext
  apply Array.ext'
  simp [ByteArray.data_extract]

theorem extract_take (s : ByteArray) (b : Nat) : s.extract 0 b = ⟨(s.data.toList.take b).toArray⟩ := by
  rw [extract_eq]; simp

theorem extract_drop (s : ByteArray) (a : Nat) : s.extract a s.size = ⟨(s.data.toList.drop a).toArray⟩ := by
  rw [extract_eq, List.take_of_length_le (by simp)]

theorem toNat_beq (a b : UInt8) : ((a.toNat : Int) == (b.toNat : Int)) = decide (a = b) := by
  rw [Bool.eq_iff_iff, beq_iff_eq, decide_eq_true_eq]
  constructor
  · intro h; exact UInt8.toNat_inj.1 (by omega)
  · intro h; rw [h]

/-- the digit of a number below ten -/
def dchar (d : Nat) : UInt8 := UInt8.ofNat (48 + d)

theorem digits_extract (d : Nat) (h : d < 10) : (ByteArray.mk #[48, 49, 50, 51, 52, 53, 54, 55, 56, 57]).extract d (d + 1) = ⟨[dchar d].toArray⟩ := by
  match d, h with
  | 0, _ => rfl
  | 1, _ => rfl
  | 2, _ => rfl
  | 3, _ => rfl
  | 4, _ => rfl
  | 5, _ => rfl
  | 6, _ => rfl
  | 7, _ => rfl
  | 8, _ => rfl
  | 9, _ => rfl

/-- a whole number's digits -/
def decL (n : Nat) : List UInt8 := if n < 10 then [dchar n] else decL (n / 10) ++ [dchar (n % 10)]
  termination_by n
  decreasing_by omega

theorem decL_small {n : Nat} (h : n < 10) : decL n = [dchar n] := by rw [decL, if_pos h]
theorem decL_big {n : Nat} (h : ¬ n < 10) : decL n = decL (n / 10) ++ [dchar (n % 10)] := by rw [decL, if_neg h]

theorem decL_length (n : Nat) : (decL n).length ≤ n + 1 := by
  induction n using Nat.strongRecOn with
  | _ n ih =>
    by_cases h : n < 10
    · rw [decL_small h]; simp
    · rw [decL_big h]; have := ih (n / 10) (by omega); simp; omega

theorem size_mk (l : List UInt8) : (ByteArray.mk l.toArray).size = l.length := by simp [ByteArray.size]
theorem mk_toList (s : ByteArray) : ByteArray.mk s.data.toList.toArray = s := by simp
theorem toList_mk (l : List UInt8) : (ByteArray.mk l.toArray).data.toList = l := by simp
theorem append_mk (a b : List UInt8) : ByteArray.mk a.toArray ++ ByteArray.mk b.toArray = ByteArray.mk (a ++ b).toArray := by
  apply ByteArray.ext; simp [ByteArray.data_append]
theorem mk_append (s : ByteArray) (b : List UInt8) : s ++ ByteArray.mk b.toArray = ByteArray.mk (s.data.toList ++ b).toArray := by
  apply ByteArray.ext; simp [ByteArray.data_append]
theorem append_eq (s t : ByteArray) : s ++ t = ByteArray.mk (s.data.toList ++ t.data.toList).toArray := by
  apply ByteArray.ext; simp [ByteArray.data_append]

/-- what the program's tables say of a slice type t over elements of type e -/
structure Elem (P : Program) (t e : TypeId) (z : Value) (size bytes : Nat) : Prop where
  under : P.underlying t = some (.slice e)
  info : ∃ i, P.info? e = some i ∧ i.zero = some z ∧ i.size = size ∧ i.bytes = bytes
  zsize : z.cells.size = size
  pos : 0 < size
  small : bytes ≤ 4096

/-- append of a row's cells behind a row of the call's own -/
theorem app_own {P : Program} {t e : TypeId} {z : Value} {size bytes : Nat} (E : Elem P t e z size bytes) {w : World} {ops : Array Oper} {rest : List Oper} {o : Oper} {a : Act} {Q : Exit → Act → World → Prop}
    (hgd : o.guard = none) (s x : Operand) (ho : o.op = .call { callee := .builtin .append, args := #[s, x], argTypes := #[t, t] })
    (base : Nat) (v : Value) (n : Nat) (xs : List Value) (hs : a.eval s = v) (hown : w.ownsRow base e size v n xs)
    (ad : Addr) (m c : Nat) (news : List Value) (hx : a.eval x = .slice (some ad) m c) (hl : news.length = m * size) (hnews : ∀ j u, news[j]? = some u → w.cell? (ad.add j) = some u) (h1 : ∀ u ∈ news, u.oneCell' = true)
    (h31 : n + m ≤ 2147483648) (hbase : base ≤ w.heap.size)
    (h : ∀ v' w', w'.ownsRow base e size v' (n + m) (xs ++ news) → w.grownBy w' v.ownBlock → wpList P ops Q rest (a.put o.dst v') w') : wpList P ops Q (o :: rest) a w := by
  obtain ⟨i, hi, hz, h2, h3⟩ := E.info
  have hs4 := E.small
  refine wpList_append_own w hgd s x t ho base e i z size bytes E.under hi hz h2 h3 E.zsize E.pos v n xs hs hown ad m c news hx hl hnews h1 (by unfold maxLen; omega) ?_ hbase (fun v' w' a b _ => h v' w' a b)
  exact Nat.le_trans (Nat.mul_le_mul h31 hs4) (by decide)

theorem cells_one {w : World} {b : Nat} {u : Value} (h : w.cell? ⟨b, 0, none⟩ = some u) : ∀ j x, [u][j]? = some x → w.cell? ((⟨b, 0, none⟩ : Addr).add j) = some x := by
  intro j x hx
  match j, hx with
  | 0, hx => simp at hx; subst hx; exact h

theorem elem_strs : Elem Tryz.prog 22 9 (.string ⟨#[]⟩) 1 16 :=
  ⟨Tryz.underlying22, info_parts (by kernel_rfl), rfl, by decide, by decide⟩

/-- a text as a cell -/
abbrev strv (l : List UInt8) : Value := .string ⟨l.toArray⟩

theorem grown_refl (w : World) (row : Option Nat) : w.grownBy w row := ⟨rfl, rfl, rfl, Nat.le_refl _, fun _ _ _ => rfl⟩

theorem own_slice {w : World} {base size n : Nat} {e : TypeId} {v : Value} {xs : List Value} (h : w.ownsRow base e size v n xs) : ∃ a cap, v = .slice a n cap := by
  rcases h.2 with ⟨hv, hn⟩ | ⟨g, cap, _, hv, _⟩
  · exact ⟨none, 0, by rw [hv, hn]⟩
  · exact ⟨_, cap, hv⟩

theorem own_some {w : World} {base size n : Nat} {e : TypeId} {v : Value} {xs : List Value} (h : w.ownsRow base e size v n xs) (hn : 0 < n) :
    ∃ g cap, v = .slice (some ⟨g, 0, none⟩) n cap ∧ base ≤ g ∧ g < w.heap.size ∧ ∀ j, j < n * size → w.cell? ⟨g, j, none⟩ = xs[j]? := by
  have hlt := h.lt
  rcases h.2 with ⟨_, h0⟩ | ⟨g, cap, cur, hv, hg, hh, _, _, _, ht⟩
  · omega
  · subst hv
    exact ⟨g, cap, rfl, hg, (hlt g rfl).2, fun j hj => h.cellAt j hj⟩
end Go.Proofs.YtkhdbolnhcfgkaaGreatDoor

/- Walks of phrasesref's small functions on texts. -/
namespace Go.Proofs.YtkhdbolnhcfgkaaGreatDoor
open Go Go.RowKit

def numeralsL (l : List UInt8) : Bool := l.all isDig && !l.isEmpty

set_option maxHeartbeats 400000 in
theorem numerals_any (s : ByteArray) (w : World) (hs : s.size ≤ 9223372036854775807) :
    Calls Tryz.prog 24 #[.string s] w fun e w' => e = .returned (.bool (numeralsL s.data.toList)) ∧ w = w' := by
  go_enter Tryz.func24, Tryz.ntmps24
  go_wp2
  go_loop [3] (fun i => ∃ k : Nat, k ≤ s.size ∧ i = .int .i64 k ∧ (s.data.toList.take k).all isDig = true) (fun i => s.size - (intOf i).toNat)
  case atStart => exact ⟨0, by omega, rfl, by simp⟩
  case round =>
    obtain ⟨k, hk, rfl, hH⟩ := hrel
    by_cases hlt : k < s.size
    · by_cases hd : isDig s[k] = true
      · have h2 := (isDig_iff _).1 hd
        have hts := all_snoc hH hd
        rw [← take_snoc s k hlt] at hts
        go_wp2
        go_round
        case rel => exact ⟨k + 1, by omega, by go_num, hts⟩
        case measure => simp [intOf]; omega
      · have hd' : isDig s[k] = false := by simpa using hd
        have h2 := (isDig_false _).1 hd'
        have hfin : numeralsL s.data.toList = false := by simp [numeralsL, all_false_of s k hlt hd']
        go_wp2
        all_goals (go_ret; exact ⟨rfl, rfl⟩)
    · have hk' : k = s.size := by omega
      subst hk'
      have hfin : numeralsL s.data.toList = decide (0 < s.size) := by
        rw [take_all] at hH
        rw [numeralsL, hH, isEmpty_toList, Bool.true_and]
        by_cases h0 : s.size = 0
        · simp [h0]
        · simp [h0]; omega
      go_wp2
      go_ret
      exact ⟨rfl, rfl⟩

set_option maxHeartbeats 400000 in
theorem nought_any (s : ByteArray) (w : World) (hs : s.size ≤ 9223372036854775807) :
    Calls Tryz.prog 25 #[.string s] w fun e w' => e = .returned (.bool (s.data.toList.all (· == 48))) ∧ w = w' := by
  go_enter Tryz.func25, Tryz.ntmps25
  go_wp2
  go_loop [3] (fun i => ∃ k : Nat, k ≤ s.size ∧ i = .int .i64 k ∧ (s.data.toList.take k).all (· == 48) = true) (fun i => s.size - (intOf i).toNat)
  case atStart => exact ⟨0, by omega, rfl, by simp⟩
  case round =>
    obtain ⟨k, hk, rfl, hH⟩ := hrel
    by_cases hlt : k < s.size
    · by_cases hd : s[k] = 48
      · have h2 : ((s[k].toNat : Int) != 48) = false := by simp [hd]
        have hts := all_snoc (c := s[k]) hH (by simp [hd])
        rw [← take_snoc s k hlt] at hts
        go_wp2
        go_round
        case rel => exact ⟨k + 1, by omega, by go_num, hts⟩
        case measure => simp [intOf]; omega
      · have hfin : s.data.toList.all (· == 48) = false := all_false_of s k hlt (by simpa using hd)
        have h2 : ((s[k].toNat : Int) != 48) = true := by
          rw [bne_iff_ne]; intro h; exact hd (UInt8.toNat_inj.1 (by show s[k].toNat = 48; omega))
        go_wp2
        all_goals (go_ret; exact ⟨rfl, rfl⟩)
    · have hk' : k = s.size := by omega
      subst hk'
      rw [take_all] at hH
      go_wp2
      go_ret
      exact ⟨rfl, rfl⟩

theorem idxOf_hit (s : ByteArray) (c : UInt8) (k : Nat) (hk : k < s.size) (hd : s[k] = c) (h : k ≤ s.data.toList.idxOf c) : s.data.toList.idxOf c = k := by
  refine Nat.le_antisymm (Nat.le_of_not_lt fun hlt => ?_) h
  have := List.not_of_lt_findIdx (p := (· == c)) (xs := s.data.toList) (i := k) hlt
  rw [getElem_toList s k hk, hd] at this
  simp at this
theorem idxOf_miss (s : ByteArray) (c : UInt8) (k : Nat) (hk : k < s.size) (hd : s[k] ≠ c) (h : k ≤ s.data.toList.idxOf c) : k + 1 ≤ s.data.toList.idxOf c := by
  refine Nat.succ_le_of_lt (Nat.lt_of_le_of_ne h fun he => ?_)
  have hl : s.data.toList.findIdx (· == c) < s.data.toList.length := by rw [size_toList]; show s.data.toList.idxOf c < s.size; omega
  have := List.findIdx_getElem (xs := s.data.toList) (p := (· == c)) (w := hl)
  apply hd
  have e2 : s.data.toList[s.data.toList.findIdx (· == c)]'hl = s[k] := by
    rw [← getElem_toList s k hk]; congr 1; exact he.symm
  rw [e2] at this
  simpa using this

set_option maxHeartbeats 400000 in
theorem cut_any (s : ByteArray) (c : UInt8) (w : World) (hs : s.size ≤ 2000000000) :
    Calls Tryz.prog 23 #[.string s, .int .u8 c.toNat] w fun e w' =>
      e = .returned (.tuple #[.string ⟨(s.data.toList.take (s.data.toList.idxOf c)).toArray⟩, .string ⟨(s.data.toList.drop (s.data.toList.idxOf c + 1)).toArray⟩, .bool (decide (s.data.toList.idxOf c < s.size))]) ∧ ∃ n, w' = w.drewN n := by
  go_enter Tryz.func23, Tryz.ntmps23
  go_wp2
  go_loop [7] (fun i => ∃ k : Nat, k ≤ s.size ∧ i = .int .i64 k ∧ k ≤ s.data.toList.idxOf c) (fun i => s.size - (intOf i).toNat)
  case atStart => exact ⟨0, by omega, rfl, by omega⟩
  case round =>
    obtain ⟨k, hk, rfl, hH⟩ := hrel
    by_cases hlt : k < s.size
    · by_cases hd : s[k] = c
      · have h2 : ((s[k].toNat : Int) == (c.toNat : Int)) = true := by rw [toNat_beq, hd]; simp
        have hi : s.data.toList.idxOf c = k := idxOf_hit s c k hlt hd hH
        have hr : (k + 1 : Nat) ≤ s.size := hlt
        have Hi := Lib.hid hi
        clear hi
        go_wp2_with fail
        go_quiet (fail)
        go_wp2
        go_ret3
        rw [Hi.out, extract_take, extract_drop]
        exact ⟨by simp [hlt], nq, rfl⟩
      · have h2 : ((s[k].toNat : Int) == (c.toNat : Int)) = false := by rw [toNat_beq]; simp [hd]
        have hi : k + 1 ≤ s.data.toList.idxOf c := idxOf_miss s c k hlt hd hH
        go_wp2
        go_round
        case rel => exact ⟨k + 1, by omega, by go_num, hi⟩
        case measure => simp [intOf]; omega
    · have hk' : k = s.size := by omega
      subst hk'
      have hi : s.data.toList.idxOf c = s.size := by have := List.idxOf_le_length (a := c) (l := s.data.toList); simp only [size_toList] at this; omega
      have Hi := Lib.hid hi
      clear hi
      go_wp2
      go_ret3
      rw [Hi.out, take_all, mk_toList, List.drop_of_length_le (by simp)]
      exact ⟨by simp, 0, rfl⟩

set_option maxHeartbeats 400000 in
theorem decimal_any (n : Nat) : ∀ (w : World), n ≤ 9223372036854775807 →
    Calls Tryz.prog 50 #[.int .i64 n] w fun e w' => e = .returned (.string ⟨(decL n).toArray⟩) ∧ w = w' := by
  induction n using Nat.strongRecOn with
  | _ n ih =>
    intro w hn
    by_cases hlt : n < 10
    · have hd := digits_extract (n % 10) (by omega)
      have hx : decL n = [dchar (n % 10)] := by rw [decL_small hlt, Nat.mod_eq_of_lt hlt]
      have Hx := Lib.hid hx
      clear hx ih
      go_enter Tryz.func50, Tryz.ntmps50
      go_wp2
      go_ret
      rw [Hx.out]
      exact ⟨ret_val (congrArg Value.string hd), rfl⟩
    · have hd := digits_extract (n % 10) (by omega)
      have hx := decL_big hlt
      have Hx := Lib.hid hx
      have hl := decL_length (n / 10)
      have IH := Lib.hid (ih (n / 10) (by omega) w (by omega))
      clear hx ih
      go_enter Tryz.func50, Tryz.ntmps50
      go_wp2_with fail
      rw [show ((n : Int) / 10) = ((n / 10 : Nat) : Int) from by omega]
      refine IH.out.mono ?_
      rintro e w' ⟨rfl, rfl⟩
      go_wp2
      go_ret
      rw [Hx.out]
      exact ⟨ret_val (congrArg Value.string (append_mk _ _)), rfl⟩
theorem headD_eq (s : ByteArray) (h : 0 < s.size) : s.data.toList.headD 0 = s[0] := by
  rw [← getElem_toList s 0 h, List.headD_eq_head?_getD, List.head?_eq_getElem?, List.getElem?_eq_getElem (by simpa using h)]
  rfl

end Go.Proofs.YtkhdbolnhcfgkaaGreatDoor

/- Base2: lemmas that give a goal's world a name, and facts on worlds. -/
namespace Go.Proofs.YtkhdbolnhcfgkaaGreatDoor
open Go Go.RowKit

/-- the world of a goal under a name -/
theorem wp_gen {P : Program} {c : Code} {Q : Exit → Act → World → Prop} {a : Act} {w : World} (h : ∀ W, W = w → Code.wp P c Q a W) : Code.wp P c Q a w := h w rfl
theorem calls_gen {P : Program} {f : FuncId} {args : Array Value} {R : Ending → World → Prop} {w : World} (h : ∀ W, W = w → Calls P f args W R) : Calls P f args w R := h w rfl
theorem list_gen {P : Program} {ops : Array Oper} {Q : Exit → Act → World → Prop} {l : List Oper} {a : Act} {w : World} (h : ∀ W, W = w → wpList P ops Q l a W) : wpList P ops Q l a w := h w rfl

theorem body_id {P : Program} {fn : Func} {R : Ending → World → Prop} {e : Exit} {a : Act} {w : World} (h : bodyPost P fn R e a w) : bodyPost P fn R e a w := h

theorem below_drewN {B : Nat} {a w : World} (h : Below B a w) (n : Nat) : Below B a (w.drewN n) := ⟨h.os, h.tape, h.output, h.size, h.block⟩

/-- a cell behind a store: decided by the addresses alone -/
theorem cellSet (w : World) (a b : Addr) (v : Value) : (w.setCell a v).cell? b = if a = b then (w.cell? b).map (fun _ => v) else w.cell? b := by
  split
  next h =>
    subst h
    cases hc : w.cell? a with
    | some u =>
      rw [World.cell?_setCell_same (h := hc)]
      rfl
    | none =>
      cases hd : (w.setCell a v).cell? a with
      | none => rfl
      | some u =>
        exfalso
        unfold World.cell? World.setCell at hd
        unfold World.cell? at hc
        simp only [Array.getElem?_modify, if_true] at hd
        cases hh : w.heap[a.block]? with
        | none => simp [hh] at hd
        | some o =>
          simp only [hh] at hc
          simp only [hh, Option.map_some] at hd
          cases o <;> simp_all
  next h => exact World.cell?_setCell_other (h := h) ..

theorem addr_add (a : Addr) (j : Nat) : (a.add j).block = a.block := by
  unfold Addr.add
  split <;> rfl
theorem addr_add0 (g j : Nat) : (⟨g, 0, none⟩ : Addr).add j = ⟨g, j, none⟩ := by
  unfold Addr.add
  split
  · simp_all
  · simp
end Go.Proofs.YtkhdbolnhcfgkaaGreatDoor

/- The document's rules: kinds of bytes, figures, small numbers; lists of words in memory. -/
namespace Go.Proofs.YtkhdbolnhcfgkaaGreatDoor
open Go Go.RowKit
set_option maxRecDepth 10000

/-- a byte's kind: 1 a small letter, 2 a digit, 3 a blank, 0 any other -/
def kindL (c : UInt8) : Nat := if 97 ≤ c.toNat ∧ c.toNat ≤ 122 then 1 else if 48 ≤ c.toNat ∧ c.toNat ≤ 57 then 2 else if c.toNat = 32 then 3 else 0

set_option maxHeartbeats 1000000 in
theorem kind_any (c : UInt8) (w : World) : Calls Tryz.prog 45 #[.int .u8 c.toNat] w fun e w' => e = .returned (.int .i64 (kindL c)) ∧ w = w' := by
  have hlt := c.toNat_lt
  obtain ⟨n, hn⟩ : ∃ n, n = c.toNat := ⟨_, rfl⟩
  have HN := Lib.hid hn
  rw [← hn] at hlt ⊢
  by_cases h1 : 97 ≤ n ∧ n ≤ 122
  · have hf : kindL c = 1 := by unfold kindL; rw [← hn, if_pos h1]
    have HF := Lib.hid hf
    have a1 : decide ((97 : Int) ≤ (n : Int)) = true := by simp; omega
    have a2 : decide ((n : Int) ≤ (122 : Int)) = true := by simp; omega
    clear hn hf
    go_enter Tryz.func45, Tryz.ntmps45
    go_wp2
    all_goals (first | (exfalso; omega) | (go_ret; exact ⟨by rw [HF.out]; rfl, rfl⟩))
  · by_cases h2 : 48 ≤ n ∧ n ≤ 57
    · have hf : kindL c = 2 := by unfold kindL; rw [← hn, if_neg h1, if_pos h2]
      have HF := Lib.hid hf
      clear hn hf
      go_enter Tryz.func45, Tryz.ntmps45
      go_wp2
      all_goals (first | (exfalso; omega) | (go_ret; exact ⟨by rw [HF.out]; rfl, rfl⟩))
    · by_cases h3 : n = 32
      · have hf : kindL c = 3 := by unfold kindL; rw [← hn, if_neg h1, if_neg h2, if_pos h3]
        have HF := Lib.hid hf
        subst h3
        clear hn hf
        go_enter Tryz.func45, Tryz.ntmps45
        go_wp2
        all_goals (first | (exfalso; omega) | (go_ret; exact ⟨by rw [HF.out]; rfl, rfl⟩))
      · have hf : kindL c = 0 := by unfold kindL; rw [← hn, if_neg h1, if_neg h2, if_neg h3]
        have HF := Lib.hid hf
        have a3 : ((n : Int) == 32) = false := by simp; omega
        clear hn hf
        go_enter Tryz.func45, Tryz.ntmps45
        go_wp2
        all_goals (first | (exfalso; omega) | (go_ret; exact ⟨by rw [HF.out]; rfl, rfl⟩))

/-- is it a rule's number? -/
def figB (l : List UInt8) : Bool := numeralsL l && (decide (l.length ≤ 9) && (decide (l.length = 1) || decide (l.headD 0 ≠ 48)))

/-- the value of digits -/
def valL (l : List UInt8) : Nat := l.foldl (fun v c => 10 * v + (c.toNat - 48)) 0

theorem valL_snoc (l : List UInt8) (c : UInt8) : valL (l ++ [c]) = 10 * valL l + (c.toNat - 48) := by simp [valL]

theorem valL_lt : ∀ (l : List UInt8), l.all isDig = true → valL l < 10 ^ l.length := by
  intro l
  induction hn : l.length generalizing l with
  | zero => intro _; have := List.eq_nil_of_length_eq_zero hn; subst this; simp [valL]
  | succ n ih =>
    intro h
    have hne : l ≠ [] := fun q => by rw [q] at hn; cases hn
    obtain ⟨t, c, rfl⟩ : ∃ t c, l = t ++ [c] := ⟨l.dropLast, l.getLast hne, by rw [List.dropLast_concat_getLast]⟩
    rw [List.all_append, Bool.and_eq_true] at h
    have hc : isDig c = true := by simpa using h.2
    have hd := (isDig_iff c).1 hc
    have hl : t.length = n := by simpa using hn
    have := ih t hl h.1
    rw [valL_snoc, Nat.pow_succ]
    omega

/-- a list of texts in memory -/
def StrsAt (w : World) (v : Value) (ws : List (List UInt8)) : Prop := ∃ a cap, v = .slice a ws.length cap ∧ ws.length ≤ cap ∧ cap ≤ maxLen ∧ (a = none → cap = 0) ∧ ∀ j (h : j < ws.length), ∃ b, a = some b ∧ w.cell? (b.add j) = some (strv ws[j])

theorem StrsAt.below {w w' : World} {v : Value} {ws : List (List UInt8)} (h : StrsAt w v ws) (hb : Below w.heap.size w w') : StrsAt w' v ws := by
  obtain ⟨a, cap, hv, hl, hm, h0, hc⟩ := h
  refine ⟨a, cap, hv, hl, hm, h0, fun j hj => ?_⟩
  obtain ⟨b, hb1, hb2⟩ := hc j hj
  refine ⟨b, hb1, ?_⟩
  rw [hb.cell (World.block_lt_of_cell? w _ hb2)]
  exact hb2

theorem StrsAt.of_own {w : World} {base n : Nat} {e : TypeId} {v : Value} {ws : List (List UInt8)} (h : w.ownsRow base e 1 v n (ws.map strv)) : StrsAt w v ws := by
  have hlen : ws.length = n := by have := h.1; simpa using this
  rcases h.2 with ⟨hv, h0⟩ | ⟨g, cap, cur, hv, _, hh, h1, h2, _, ht⟩
  · subst h0
    have : ws = [] := List.eq_nil_of_length_eq_zero hlen
    subst this
    exact ⟨none, 0, hv, Nat.le_refl _, Nat.zero_le _, fun _ => rfl, fun j h => absurd h (Nat.not_lt_zero j)⟩
  · refine ⟨some ⟨g, 0, none⟩, cap, by rw [hv, hlen], by omega, h2, (fun h => by cases h), fun j hj => ⟨_, rfl, ?_⟩⟩
    subst hv
    rw [addr_add0, h.cellAt j (by omega)]
    simp [hj]

/-- a cell of a row of the call's own is written -/
theorem own_put {w : World} {base n : Nat} {e : TypeId} {g cap : Nat} {xs : List Value} (h : w.ownsRow base e 1 (.slice (some ⟨g, 0, none⟩) n cap) n xs) (j : Nat) (hj : j < n) (u : Value) :
    (w.setCell ⟨g, j, none⟩ u).ownsRow base e 1 (.slice (some ⟨g, 0, none⟩) n cap) n (xs.set j u) := by
  have hx : xs.length = n := by have := h.1; simpa using this
  refine ⟨by simp [hx], ?_⟩
  rcases h.2 with ⟨hv, _⟩ | ⟨g2, cap2, cur, hv, hg, hh, h1, h2, h3, ht⟩
  · cases hv
  · simp only [Value.slice.injEq, Option.some.injEq, Addr.mk.injEq] at hv
    obtain ⟨⟨rfl, -⟩, -, rfl⟩ := hv
    refine .inr ⟨g, cap, cur.setIfInBounds j u, rfl, hg, ?_, h1, h2, by simpa using h3, ?_⟩
    · simp [World.setCell, Array.getElem?_modify, hh]
    · rw [Array.toList_setIfInBounds, ← ht, List.take_set]
end Go.Proofs.YtkhdbolnhcfgkaaGreatDoor

/- The document's rules: figures, small numbers, words. -/
namespace Go.Proofs.YtkhdbolnhcfgkaaGreatDoor
open Go Go.RowKit
set_option maxRecDepth 10000

theorem figB_eq (s : ByteArray) (h0 : 0 < s.size) : figB s.data.toList = (numeralsL s.data.toList && (decide (s.size ≤ 9) && (decide (s.size = 1) || decide (s[0] ≠ 48)))) := by
  unfold figB
  rw [size_toList]
  have : s.data.toList.headD 0 = s[0] := by
    have hl : 0 < s.data.toList.length := by simpa using h0
    rw [← getElem_toList s 0 h0, List.headD_eq_head?_getD, List.head?_eq_getElem?, List.getElem?_eq_getElem hl]
    rfl
  rw [this]

set_option maxHeartbeats 2000000 in
theorem figure_any (s : ByteArray) (w : World) (hs : s.size ≤ 1000000) : Calls Tryz.prog 47 #[.string s] w fun e w' => e = .returned (.tuple #[.string s, .bool (figB s.data.toList)]) ∧ ∃ n, w' = w.drewN n := by
  cases hn : numeralsL s.data.toList
  · have hf : figB s.data.toList = false := by unfold figB; rw [hn]; rfl
    have HF := Lib.hid hf
    have HN := Lib.hid hn
    clear hf hn
    go_enter Tryz.func47, Tryz.ntmps47
    go_wp2_with fail
    refine (numerals_any s _ (by omega)).mono ?_
    rw [HN.out]
    rintro e w1 ⟨rfl, rfl⟩
    go_wp2_with fail
    go_quiet (fail)
    go_wp2
    go_ret2
    exact ⟨by rw [HF.out]; rfl, nq, rfl⟩
  · have h0 : 0 < s.size := by
      simp only [numeralsL, Bool.and_eq_true] at hn
      have := hn.2
      rw [isEmpty_toList] at this
      rcases Nat.eq_zero_or_pos s.size with h | h
      · rw [h] at this; cases this
      · exact h
    have hf := figB_eq s h0
    rw [hn] at hf
    by_cases h9 : s.size ≤ 9
    · have h9' : decide ((s.size : Int) ≤ 9) = true := by simp; omega
      by_cases h1 : s.size = 1
      · have hf2 : figB s.data.toList = true := by rw [hf]; simp [h9, h1]
        have HF := Lib.hid hf2
        have HN := Lib.hid hn
        have h1' : ((s.size : Int) == 1) = true := by simp; omega
        clear hf hf2 hn h1
        go_enter Tryz.func47, Tryz.ntmps47
        go_wp2_with fail
        refine (numerals_any s _ (by omega)).mono ?_
        rw [HN.out]
        rintro e w1 ⟨rfl, rfl⟩
        go_wp2_with fail
        go_quiet (fail)
        go_wp2
        go_ret2
        exact ⟨by rw [HF.out]; rfl, nq, rfl⟩
      · have h1' : ((s.size : Int) == 1) = false := by simp; omega
        have hne : ((s[0].toNat : Int) != 48) = decide (s[0] ≠ 48) := by
          have := toNat_beq s[0] 48
          rw [bne, show ((48 : Int)) = (((48 : UInt8).toNat : Nat) : Int) from rfl, this]
          simp
        have hf2 : figB s.data.toList = decide (s[0] ≠ 48) := by rw [hf]; simp [h9, h1]
        rw [← hne] at hf2
        have HF := Lib.hid hf2
        have HN := Lib.hid hn
        clear hf hf2 hn h1 hne
        go_enter Tryz.func47, Tryz.ntmps47
        go_wp2_with fail
        refine (numerals_any s _ (by omega)).mono ?_
        rw [HN.out]
        rintro e w1 ⟨rfl, rfl⟩
        go_wp2_with fail
        go_quiet (fail)
        go_wp2
        go_ret2
        exact ⟨by rw [HF.out]; rfl, nq, rfl⟩
    · have h9' : decide ((s.size : Int) ≤ 9) = false := by simp; omega
      have hf2 : figB s.data.toList = false := by rw [hf]; simp [h9]
      have HF := Lib.hid hf2
      have HN := Lib.hid hn
      clear hf hf2 hn
      go_enter Tryz.func47, Tryz.ntmps47
      go_wp2_with fail
      refine (numerals_any s _ (by omega)).mono ?_
      rw [HN.out]
      rintro e w1 ⟨rfl, rfl⟩
      go_wp2_with fail
      go_quiet (fail)
      go_wp2
      go_ret2
      exact ⟨by rw [HF.out]; rfl, nq, rfl⟩

theorem all_dig_at {s : ByteArray} (h : s.data.toList.all isDig = true) (k : Nat) (hk : k < s.size) : isDig s[k] = true := by
  rw [← getElem_toList s k hk]
  exact List.all_eq_true.1 h _ (List.getElem_mem _)

theorem take_all_dig {l : List UInt8} (h : l.all isDig = true) (k : Nat) : (l.take k).all isDig = true := by
  rw [List.all_eq_true] at h ⊢
  exact fun c hc => h c (List.mem_of_mem_take hc)

theorem valL_small (l : List UInt8) (k : Nat) (h : l.all isDig = true) (hl : l.length ≤ 9) : valL (l.take k) < 1000000000 := by
  have h1 := valL_lt (l.take k) (take_all_dig h k)
  have h2 : (l.take k).length ≤ 9 := by simp; omega
  have : 10 ^ (l.take k).length ≤ 10 ^ 9 := Nat.pow_le_pow_right (by decide) h2
  omega

set_option maxHeartbeats 1000000 in
theorem small_any (s : ByteArray) (w : World) (hs : s.size ≤ 9) (hd : s.data.toList.all isDig = true) : Calls Tryz.prog 48 #[.string s] w fun e w' => e = .returned (.int .i64 (valL s.data.toList)) ∧ w = w' := by
  have HV := Lib.hid (fun k => valL_small s.data.toList k hd (by rw [size_toList]; exact hs))
  go_enter Tryz.func48, Tryz.ntmps48
  go_wp2
  go_loop [3, 4] (fun v i => ∃ k : Nat, k ≤ s.size ∧ i = .int .i64 k ∧ v = .int .i64 (valL (s.data.toList.take k))) (fun _ i => s.size - (intOf i).toNat)
  case atStart => exact ⟨0, by omega, rfl, rfl⟩
  case round =>
    obtain ⟨k, hk, rfl, rfl⟩ := hrel
    have hv := HV.out k
    by_cases hlt : k < s.size
    · have hc := (isDig_iff _).1 (all_dig_at hd k hlt)
      have hsn : valL (s.data.toList.take (k + 1)) = 10 * valL (s.data.toList.take k) + (s[k].toNat - 48) := by rw [take_snoc s k hlt, valL_snoc]
      have HS := Lib.hid hsn
      clear hsn
      obtain ⟨x, hx⟩ : ∃ x, x = valL (s.data.toList.take k) := ⟨_, rfl⟩
      rw [← hx] at hv HS ⊢
      clear hx
      go_wp2
      go_round
      case rel => exact ⟨k + 1, by omega, by go_num, by rw [HS.out]; go_num⟩
      case measure => simp [intOf]; omega
    · obtain rfl : k = s.size := by omega
      go_wp2
      go_ret
      rw [take_all]
      exact ⟨rfl, rfl⟩
end Go.Proofs.YtkhdbolnhcfgkaaGreatDoor

/- Regions that draw their order: what only reads is taken first, in an order that the prover names; what is left goes one by one. -/
namespace Go.Proofs.YtkhdbolnhcfgkaaGreatDoor
open Go Go.RowKit

section
variable {P : Program} {ops : Array Oper} {Q : Exit → Act → World → Prop} {md : Region.Mode} {S : World → Prop}

/-- an operation of a list, so that it is laid bare by reckoning -/
def nthOp : List Oper → Nat → Option Oper
  | [], _ => none
  | o :: _, 0 => some o
  | _ :: l, n + 1 => nthOp l n

theorem nthOp_eq : ∀ (l : List Oper) (i : Nat), nthOp l i = l.toArray[i]?
  | [], i => by simp [nthOp]
  | o :: l, 0 => by simp [nthOp]
  | o :: l, n + 1 => by simpa [nthOp] using nthOp_eq l n

/-- the operations of a list are run one by one, each yields one value in every world that meets S -/
def takes (P : Program) (ops : Array Oper) (S : World → Prop) (K : Act → Prop) : List Nat → Act → Prop
  | [], a => K a
  | i :: is, a => ∃ o v, ops[i]? = some o ∧ YieldsIf P ops S o v a ∧ takes P ops S K is (a.put o.dst v)

/-- may they be taken so? -/
def takesB (md : Region.Mode) (ops : Array Oper) : List Nat → Array Bool → Bool
  | [], _ => true
  | i :: is, listed => Region.free md ops listed i && (Region.ready md ops listed).contains i && takesB md ops is (listed.setIfInBounds i true)

def markAll (listed : Array Bool) (is : List Nat) : Array Bool := is.foldl (fun l i => l.setIfInBounds i true) listed

theorem takes_yes {K : Act → Prop} {l : List Oper} {i : Nat} {is : List Nat} {a : Act} {o : Oper} {v : Value} (ho : nthOp l i = some o) (hw : Region.wanted o (yielded l.toArray a.tmps) = true)
    (hy : ∀ w, S w → (execOp a.eval o).run P w = .ok (.value v) w) (h : takes P l.toArray S K is (a.put o.dst v)) : takes P l.toArray S K (i :: is) a :=
  ⟨o, v, (nthOp_eq l i).symm.trans ho, .inl ⟨hw, hy⟩, h⟩

theorem takes_no {K : Act → Prop} {l : List Oper} {i : Nat} {is : List Nat} {a : Act} {o : Oper} (ho : nthOp l i = some o) (hw : Region.wanted o (yielded l.toArray a.tmps) = false)
    (h : takes P l.toArray S K is (a.put o.dst undef)) : takes P l.toArray S K (i :: is) a :=
  ⟨o, undef, (nthOp_eq l i).symm.trans ho, .inr ⟨hw, rfl⟩, h⟩

theorem takes_nil {K : Act → Prop} {a : Act} (h : K a) : takes P ops S K [] a := h

theorem wpAnyH_takes (hQ : ∀ c a d v w, Q (.panic c) (a.put d v) w → Q (.panic c) a w) (hs : Region.noSelect ops = true) {w : World} (hS : S w) {fuel : Nat} :
    ∀ (is : List Nat) (listed : Array Bool) (a : Act), takesB md ops is listed = true →
      takes P ops S (fun a' => wpAnyH P md ops Q S fuel (markAll listed is) a' w) is a → wpAnyH P md ops Q S (fuel + is.length) listed a w
  | [], _, _, _, h => h
  | i :: is, listed, a, hB, ⟨o, v, ho, hy, h⟩ => by
    simp only [takesB, Bool.and_eq_true] at hB
    rw [List.length_cons, ← Nat.add_assoc]
    exact wpAnyH_take ho hs hB.1.1 hB.1.2 (fun c a w => hQ c a o.dst v w) hy hS (wpAnyH_takes hQ hs hS is _ _ hB.2 h)

/-- the beginning: a region whose operations 'is' are taken first; 'fuel' are left -/
theorem wp_region_takes {id : Nat} {l : List Oper} {a : Act} {w : World} (S : World → Prop) (is : List Nat) (fuel : Nat) (hQ : ∀ c a d v w, Q (.panic c) (a.put d v) w → Q (.panic c) a w)
    (hm : P.follows .mixedOrders = true) (hn : (Region.noSelect l.toArray && decide (l.length = fuel + is.length) && takesB .any l.toArray is (Array.replicate l.toArray.size false)) = true) (hS : S w.drew)
    (h : takes P l.toArray S (fun a' => wpAnyH P .any l.toArray Q S fuel (markAll (Array.replicate l.toArray.size false) is) a' w.drew) is a) : (Code.region id l.toArray true).wp P Q a w := by
  simp only [Bool.and_eq_true, decide_eq_true_eq] at hn
  refine wp_region_held (S := S) hm ?_
  have h1 := wpAnyH_takes (Q := Q) (md := .any) (ops := l.toArray) hQ hn.1.1 hS is _ a hn.2 h
  have h2 : l.toArray.size = fuel + is.length := by simpa using hn.1.2
  rw [h2]
  rw [h2] at h1
  exact h1

/-- more are taken, behind an operation that was carried out -/
theorem wpAnyH_more {w : World} (is : List Nat) (fuel : Nat) {f : Nat} {listed : Array Bool} {a : Act} (hf : f = fuel + is.length) (hQ : ∀ c a d v w, Q (.panic c) (a.put d v) w → Q (.panic c) a w)
    (hs : Region.noSelect ops = true) (hB : takesB md ops is listed = true) (hS : S w)
    (h : takes P ops S (fun a' => wpAnyH P md ops Q S fuel (markAll listed is) a' w) is a) : wpAnyH P md ops Q S f listed a w := by
  subst hf
  exact wpAnyH_takes hQ hs hS is listed a hB h

/-- the only one that may come up now -/
theorem wpAnyH_only {l : List Oper} {w : World} (i : Nat) {fuel : Nat} {listed : Array Bool} {a : Act} {o : Oper} (hr : Region.ready md l.toArray listed = [i]) (ho : nthOp l i = some o)
    (h : ∀ K' : Act → World → Prop, Shut (∀ a w, S w → (S w → wpAnyH P md l.toArray Q S fuel (listed.setIfInBounds i true) a w) → K' a w) → if Region.wanted o (yielded l.toArray a.tmps) = true then Oper.wp P o a w K' Q else K' (a.put o.dst undef) w) :
    wpAnyH P md l.toArray Q S (fuel + 1) listed a w :=
  wpAnyH_ready hr (by simp) (AllReadyH.cons ((nthOp_eq l i).symm.trans ho) h AllReadyH.nil)
end
end Go.Proofs.YtkhdbolnhcfgkaaGreatDoor

/- The document's rules: a rule's words. -/
namespace Go.Proofs.YtkhdbolnhcfgkaaGreatDoor
open Go Go.RowKit
set_option maxRecDepth 10000

/-- a byte more behind the last word -/
def joinL (out : List (List UInt8)) (c : UInt8) : List (List UInt8) := out.set (out.length - 1) (out.getD (out.length - 1) [] ++ [c])

/-- words, numbers and signs, from some place on -/
def wordsGo : List UInt8 → List (List UInt8) → Nat → Option (List (List UInt8))
  | [], out, _ => some out
  | c :: t, out, last =>
    if kindL c = 3 then wordsGo t out 3
    else if 0 < kindL c ∧ kindL c = last then wordsGo t (joinL out c) (kindL c)
    else if 0 < kindL c ∨ c = 61 ∨ c = 44 ∨ c = 37 then wordsGo t (out ++ [[c]]) (kindL c)
    else match t with
      | [] => none
      | d :: t2 => if (c = 33 ∧ d = 61) ∨ (c = 46 ∧ d = 46) then wordsGo t2 (out ++ [[c, d]]) 0 else none

/-- a rule's words, up to its samples; none: something else stands there -/
def wordsL (l : List UInt8) : Option (List (List UInt8)) := wordsGo (l.take (l.idxOf 64)) [] 3

theorem kindL_le (c : UInt8) : kindL c ≤ 3 := by
  unfold kindL
  split
  · decide
  split
  · decide
  split <;> decide

def WordsPost (r : Option (List (List UInt8))) (w : World) (e : Ending) (w' : World) : Prop :=
  (match r with | some ws => ∃ v, e = .returned (.tuple #[v, .bool true]) ∧ w'.ownsRow w.heap.size 9 1 v ws.length (ws.map strv) | none => e = .returned (.tuple #[.slice none 0 0, .bool false])) ∧ Below w.heap.size w w'

/-- the loop's relation -/
def WordsRel (t : ByteArray) (r : Option (List (List UInt8))) (w : World) (v lst i : Value) (wr : World) : Prop :=
  ∃ (k last : Nat) (acc : List (List UInt8)), k ≤ t.size ∧ i = .int .i64 k ∧ lst = .int .i64 last ∧ wr.ownsRow w.heap.size 9 1 v acc.length (acc.map strv) ∧ Below w.heap.size w wr ∧
    acc.length ≤ k ∧ (∀ x ∈ acc, x.length ≤ k) ∧ last ≤ 3 ∧ (last = 1 ∨ last = 2 → acc ≠ []) ∧ wordsGo (t.data.toList.drop k) acc last = r

theorem drop_cons (t : ByteArray) (k : Nat) (h : k < t.size) : t.data.toList.drop k = t[k] :: t.data.toList.drop (k + 1) := by
  rw [List.drop_eq_getElem_cons (by simpa using h), getElem_toList t k h]

theorem go_blank {c : UInt8} {t out last} (h : kindL c = 3) : wordsGo (c :: t) out last = wordsGo t out 3 := by rw [wordsGo.eq_def]; dsimp only; rw [if_pos h]
theorem go_join {c : UInt8} {t out last} (h3 : kindL c ≠ 3) (h : 0 < kindL c ∧ kindL c = last) : wordsGo (c :: t) out last = wordsGo t (joinL out c) (kindL c) := by rw [wordsGo.eq_def]; dsimp only; rw [if_neg h3, if_pos h]
theorem go_one {c : UInt8} {t out last} (h3 : kindL c ≠ 3) (h : ¬ (0 < kindL c ∧ kindL c = last)) (h1 : 0 < kindL c ∨ c = 61 ∨ c = 44 ∨ c = 37) : wordsGo (c :: t) out last = wordsGo t (out ++ [[c]]) (kindL c) := by
  rw [wordsGo.eq_def]; dsimp only; rw [if_neg h3, if_neg h, if_pos h1]
theorem go_two {c d : UInt8} {t out last} (h3 : kindL c = 0) (h1 : ¬ (c = 61 ∨ c = 44 ∨ c = 37)) (h2 : (c = 33 ∧ d = 61) ∨ (c = 46 ∧ d = 46)) : wordsGo (c :: d :: t) out last = wordsGo t (out ++ [[c, d]]) 0 := by
  have q0 : ¬ (0 < kindL c ∨ c = 61 ∨ c = 44 ∨ c = 37) := fun q => q.elim (by omega) h1
  rw [wordsGo.eq_def]; dsimp only; rw [if_neg (by omega), if_neg (by omega), if_neg q0, if_pos h2]
theorem go_bad {c d : UInt8} {t out last} (h3 : kindL c = 0) (h1 : ¬ (c = 61 ∨ c = 44 ∨ c = 37)) (h2 : ¬ ((c = 33 ∧ d = 61) ∨ (c = 46 ∧ d = 46))) : wordsGo (c :: d :: t) out last = none := by
  have q0 : ¬ (0 < kindL c ∨ c = 61 ∨ c = 44 ∨ c = 37) := fun q => q.elim (by omega) h1
  rw [wordsGo.eq_def]; dsimp only; rw [if_neg (by omega), if_neg (by omega), if_neg q0, if_neg h2]
theorem go_bad1 {c : UInt8} {out last} (h3 : kindL c = 0) (h1 : ¬ (c = 61 ∨ c = 44 ∨ c = 37)) : wordsGo [c] out last = none := by
  have q0 : ¬ (0 < kindL c ∨ c = 61 ∨ c = 44 ∨ c = 37) := fun q => q.elim (by omega) h1
  rw [wordsGo.eq_def]; dsimp only; rw [if_neg (by omega), if_neg (by omega), if_neg q0]

theorem ext_one (t : ByteArray) (k : Nat) (h : k < t.size) : t.extract k (k + 1) = ⟨[t[k]].toArray⟩ := by
  rw [extract_eq, drop_cons t k h, Nat.add_sub_cancel_left]
  rfl
theorem ext_two (t : ByteArray) (k : Nat) (h : k + 1 < t.size) : t.extract k (k + 2) = ⟨[t[k], t[k + 1]].toArray⟩ := by
  rw [extract_eq, drop_cons t k (by omega), drop_cons t (k + 1) h, Nat.add_sub_cancel_left]
  rfl

theorem rel_join {t : ByteArray} {r : Option (List (List UInt8))} {w wr : World} {k kd m g cap : Nat} {acc : List (List UInt8)} {lw : List UInt8} (hlt : k < t.size) (hkd : kindL t[k] = kd) (h3 : ¬ kd = 3) (h0 : ¬ kd = 0) (hkd3 : kd ≤ 3)
    (hm : acc.length = m + 1) (hmk : m + 1 ≤ k) (hlw : lw = acc.getD m []) (hx : ∀ x ∈ acc, x.length ≤ k) (ho : wr.ownsRow w.heap.size 9 1 (.slice (some ⟨g, 0, none⟩) acc.length cap) acc.length (acc.map strv)) (hg0 : w.heap.size ≤ g)
    (hb : Below w.heap.size w wr) (hG : wordsGo (t[k] :: t.data.toList.drop (k + 1)) acc kd = r) :
    WordsRel t r w (.slice (some ⟨g, 0, none⟩) (m + 1) cap) (.int .i64 kd) (.int .i64 ((k : Int) + 1)) (wr.setCell ⟨g, m, none⟩ (.string (⟨lw.toArray⟩ ++ t.extract k (k + 1)))).drew := by
  have hj : joinL acc t[k] = acc.set m (lw ++ [t[k]]) := by
    unfold joinL
    rw [hm, Nat.add_sub_cancel, ← hlw]
  have hlen : (joinL acc t[k]).length = m + 1 := by rw [hj, List.length_set, hm]
  refine ⟨k + 1, kd, joinL acc t[k], by omega, by go_num, rfl, ?_, ?_, by omega, ?_, hkd3, fun _ q => ?_, ?_⟩
  · rw [hlen, hj, List.map_set, ext_one t k hlt, append_mk]
    have := own_put ho m (by omega) (strv (lw ++ [t[k]]))
    rw [hm] at this
    exact this
  · exact (hb.setCell (p := ⟨g, m, none⟩) hg0 _).drew
  · intro x hxm
    rw [hj] at hxm
    rcases List.mem_or_eq_of_mem_set hxm with q | q
    · have := hx x q; omega
    · rw [q, hlw]
      have : (acc.getD m []).length ≤ k := by
        refine hx _ ?_
        rw [List.getD_eq_getElem?_getD, List.getElem?_eq_getElem (show m < acc.length by omega)]
        exact List.getElem_mem _
      simp only [List.length_append, List.length_cons, List.length_nil]
      omega
  · rw [q] at hlen; cases hlen
  · rw [← hG, go_join (by rw [hkd]; exact h3) ⟨by rw [hkd]; omega, hkd⟩, hkd]

theorem rel_one {t : ByteArray} {r : Option (List (List UInt8))} {w w1 : World} {k kd last : Nat} {acc : List (List UInt8)} {v' : Value} (hlt : k < t.size) (hkd : kindL t[k] = kd) (h3 : ¬ kd = 3) (hn : ¬ (0 < kd ∧ kd = last)) (hkd3 : kd ≤ 3)
    (h1 : 0 < kd ∨ t[k] = 61 ∨ t[k] = 44 ∨ t[k] = 37) (hl : acc.length ≤ k) (hx : ∀ x ∈ acc, x.length ≤ k) (ho : w1.ownsRow w.heap.size 9 1 v' (acc.length + 1) (acc.map strv ++ [.string (t.extract k (k + 1))]))
    (hb : Below w.heap.size w w1) (hG : wordsGo (t[k] :: t.data.toList.drop (k + 1)) acc last = r) :
    WordsRel t r w v' (.int .i64 kd) (.int .i64 ((k : Int) + 1)) w1 := by
  rw [ext_one t k hlt] at ho
  refine ⟨k + 1, kd, acc ++ [[t[k]]], by omega, by go_num, rfl, by simpa using ho, hb, by simp; omega, ?_, hkd3, fun _ q => by simp at q, ?_⟩
  · intro x hxm
    rcases List.mem_append.1 hxm with q | q
    · have := hx x q; omega
    · simp at q; subst q; simp
  · rw [← hG, go_one (by rw [hkd]; exact h3) (by rw [hkd]; exact hn) (by rw [hkd]; exact h1), hkd]

theorem rel_two {t : ByteArray} {r : Option (List (List UInt8))} {w w1 : World} {k last : Nat} {acc : List (List UInt8)} {v' : Value} (hlt : k + 1 < t.size) (hkd : kindL t[k] = 0)
    (h1 : ¬ (t[k] = 61 ∨ t[k] = 44 ∨ t[k] = 37)) (h2 : (t[k] = 33 ∧ t[k + 1] = 61) ∨ (t[k] = 46 ∧ t[k + 1] = 46)) (hl : acc.length ≤ k) (hx : ∀ x ∈ acc, x.length ≤ k) (ho : w1.ownsRow w.heap.size 9 1 v' (acc.length + 1) (acc.map strv ++ [.string (t.extract k (k + 2))]))
    (hb : Below w.heap.size w w1) (hG : wordsGo (t[k] :: t.data.toList.drop (k + 1)) acc last = r) :
    WordsRel t r w v' (.int .i64 (0 : Nat)) (.int .i64 ((k : Int) + 1 + 1)) w1 := by
  rw [ext_two t k hlt] at ho
  refine ⟨k + 2, 0, acc ++ [[t[k], t[k + 1]]], by omega, by go_num, rfl, by simpa using ho, hb, by simp; omega, ?_, by decide, fun q => by omega, ?_⟩
  · intro x hxm
    rcases List.mem_append.1 hxm with q | q
    · have := hx x q; omega
    · simp at q; subst q; simp
  · rw [← hG, drop_cons t (k + 1) hlt, go_two hkd h1 h2]

set_option maxHeartbeats 4000000 in
theorem words_any (s : ByteArray) (w : World) (hs : s.size ≤ 1000000) : Calls Tryz.prog 32 #[.string s] w (WordsPost (wordsL s.data.toList) w) := by
  obtain ⟨r, hr⟩ : ∃ r, wordsL s.data.toList = r := ⟨_, rfl⟩
  rw [hr]
  obtain ⟨t, ht⟩ : ∃ t : ByteArray, t = ⟨(s.data.toList.take (s.data.toList.idxOf 64)).toArray⟩ := ⟨_, rfl⟩
  have hts : t.size ≤ 1000000 := by rw [ht, size_mk]; simp; omega
  have hwr : wordsGo t.data.toList [] 3 = r := by rw [← hr, ht, toList_mk]; rfl
  have HT := Lib.hid ht
  have HR := Lib.hid hwr
  clear ht hr hwr
  go_enter Tryz.func32, Tryz.ntmps32
  go_wp2_with fail
  refine (cut_any s 64 _ (by omega)).mono ?_
  rw [← HT.out]
  rintro e w1 ⟨rfl, nd, rfl⟩
  go_wp2_with fail
  go_loopw [4, 5, 6] (fun v lst i wr => WordsRel t r w v lst i wr) (fun _ _ i _ => t.size - (intOf i).toNat)
  case atStart => exact ⟨0, 3, [], by omega, rfl, rfl, World.ownsRow_nil _ _ _ _, below_drewN (Below.refl _ _) nd, by simp, by simp, by decide, by simp, by rw [List.drop_zero]; exact HR.out⟩
  case round =>
    obtain ⟨k, last, acc, hk, rfl, rfl, hown, hb, hl, hlx, hlast, hne, hgo⟩ := hrel
    by_cases hlt : k < t.size
    · rw [drop_cons t k hlt] at hgo
      have HG := Lib.hid hgo
      have HX := Lib.hid hlx
      have HNE := Lib.hid hne
      clear hgo hlx hne
      have hk3 := kindL_le t[k]
      obtain ⟨kd, hkd⟩ : ∃ n, kindL t[k] = n := ⟨_, rfl⟩
      have HK := Lib.hid hkd
      rw [hkd] at hk3
      clear hkd
      go_wp2_with fail
      refine (kind_any t[k] _).mono ?_
      rw [HK.out]
      rintro e w2 ⟨rfl, rfl⟩
      by_cases k3 : kd = 3
      · subst k3
        go_wp2
        go_roundw
        case rel => exact ⟨k + 1, 3, acc, by omega, by go_num, rfl, hown, hb, by omega, fun x hx => by have := HX.out x hx; omega, by omega, fun h => by omega, by rw [← HG.out, go_blank HK.out]⟩
        case measure => simp [intOf]; omega
      · have k3' : ((kd : Int) == 3) = false := by simp; omega
        by_cases k0 : kd = 0
        · subst k0
          have HO := Lib.hid hown
          have kz : decide ((0 : Int) < ((0 : Nat) : Int)) = false := by decide
          by_cases e0 : t[k] = 61
          · have q0 : ((t[k].toNat : Int) == 61) = true := by rw [e0]; rfl
            have E0 := Lib.hid e0
            clear e0
            go_wp2_with (at_builtin; refine app_own elem_strs rfl _ _ rfl w.heap.size _ _ _ rfl (hown.alloc _) ⟨wr.heap.size, 0, none⟩ 1 1 [.string (t.extract k (k + 1))] rfl rfl ?ax1 ?ax2 ?ax3 ?ax4 ?_)
            case ax1 => exact cells_one (by simp)
            case ax2 => intro u hu; simp at hu; subst hu; rfl
            case ax3 => omega
            case ax4 => have := hb.size; simp; omega
            intro v' w1 hown' hgrow
            go_wp2
            go_roundw
            case rel => exact rel_one hlt HK.out (by decide) (fun q => absurd q.1 (by decide)) (by decide) (.inr (.inl E0.out)) hl HX.out hown' ((hb.alloc hb.size _).grown hgrow (by have := hb.size; simp; omega) (fun q hq => (HO.out.lt q hq).1)) HG.out
            case measure => simp [intOf]; omega
          have q0 : ((t[k].toNat : Int) == 61) = false := by rw [show ((61 : Int)) = (((61 : UInt8).toNat : Nat) : Int) from rfl, toNat_beq]; simpa using e0
          by_cases e1 : t[k] = 44
          · have q1 : ((t[k].toNat : Int) == 44) = true := by rw [e1]; rfl
            have E1 := Lib.hid e1
            clear e1
            go_wp2_with (at_builtin; refine app_own elem_strs rfl _ _ rfl w.heap.size _ _ _ rfl (hown.alloc _) ⟨wr.heap.size, 0, none⟩ 1 1 [.string (t.extract k (k + 1))] rfl rfl ?bx1 ?bx2 ?bx3 ?bx4 ?_)
            case bx1 => exact cells_one (by simp)
            case bx2 => intro u hu; simp at hu; subst hu; rfl
            case bx3 => omega
            case bx4 => have := hb.size; simp; omega
            intro v' w1 hown' hgrow
            go_wp2
            go_roundw
            case rel => exact rel_one hlt HK.out (by decide) (fun q => absurd q.1 (by decide)) (by decide) (.inr (.inr (.inl E1.out))) hl HX.out hown' ((hb.alloc hb.size _).grown hgrow (by have := hb.size; simp; omega) (fun q hq => (HO.out.lt q hq).1)) HG.out
            case measure => simp [intOf]; omega
          have q1 : ((t[k].toNat : Int) == 44) = false := by rw [show ((44 : Int)) = (((44 : UInt8).toNat : Nat) : Int) from rfl, toNat_beq]; simpa using e1
          by_cases e2 : t[k] = 37
          · have q2 : ((t[k].toNat : Int) == 37) = true := by rw [e2]; rfl
            have E2 := Lib.hid e2
            clear e2
            go_wp2_with (at_builtin; refine app_own elem_strs rfl _ _ rfl w.heap.size _ _ _ rfl (hown.alloc _) ⟨wr.heap.size, 0, none⟩ 1 1 [.string (t.extract k (k + 1))] rfl rfl ?cx1 ?cx2 ?cx3 ?cx4 ?_)
            case cx1 => exact cells_one (by simp)
            case cx2 => intro u hu; simp at hu; subst hu; rfl
            case cx3 => omega
            case cx4 => have := hb.size; simp; omega
            intro v' w1 hown' hgrow
            go_wp2
            go_roundw
            case rel => exact rel_one hlt HK.out (by decide) (fun q => absurd q.1 (by decide)) (by decide) (.inr (.inr (.inr E2.out))) hl HX.out hown' ((hb.alloc hb.size _).grown hgrow (by have := hb.size; simp; omega) (fun q hq => (HO.out.lt q hq).1)) HG.out
            case measure => simp [intOf]; omega
          have q2 : ((t[k].toNat : Int) == 37) = false := by rw [show ((37 : Int)) = (((37 : UInt8).toNat : Nat) : Int) from rfl, toNat_beq]; simpa using e2
          have hno : ¬ (t[k] = 61 ∨ t[k] = 44 ∨ t[k] = 37) := by rintro (q | q | q) <;> contradiction
          have HNO := Lib.hid hno
          clear e0 e1 e2 hno
          by_cases hk1 : k + 1 < t.size
          · by_cases p : t[k] = 33 ∧ t[k + 1] = 61
            · have x2 : t.extract k (k + 2) = ⟨#[33, 61]⟩ := by rw [ext_two t k hk1, p.1, p.2]
              have P := Lib.hid p
              have X2 := Lib.hid x2
              clear p
              go_wp2_with (at_builtin; refine app_own elem_strs rfl _ _ rfl w.heap.size _ _ _ rfl (hown.alloc _) ⟨wr.heap.size, 0, none⟩ 1 1 [.string ⟨#[33, 61]⟩] rfl rfl ?dx1 ?dx2 ?dx3 ?dx4 ?_)
              case dx1 => exact cells_one (by simp)
              case dx2 => intro u hu; simp at hu; subst hu; rfl
              case dx3 => omega
              case dx4 => have := hb.size; simp; omega
              intro v' w1 hown' hgrow
              go_wp2
              go_roundw
              case rel => exact rel_two hk1 HK.out HNO.out (.inl P.out) hl HX.out (by rw [X2.out]; exact hown') ((hb.alloc hb.size _).grown hgrow (by have := hb.size; simp; omega) (fun q hq => (HO.out.lt q hq).1)) HG.out
              case measure => simp [intOf]; omega
            by_cases p2 : t[k] = 46 ∧ t[k + 1] = 46
            · have x2 : t.extract k (k + 2) = ⟨#[46, 46]⟩ := by rw [ext_two t k hk1, p2.1, p2.2]
              have P := Lib.hid p2
              have X2 := Lib.hid x2
              clear p2
              go_wp2_with (at_builtin; refine app_own elem_strs rfl _ _ rfl w.heap.size _ _ _ rfl (hown.alloc _) ⟨wr.heap.size, 0, none⟩ 1 1 [.string ⟨#[46, 46]⟩] rfl rfl ?ex1 ?ex2 ?ex3 ?ex4 ?_)
              case ex1 => exact cells_one (by simp)
              case ex2 => intro u hu; simp at hu; subst hu; rfl
              case ex3 => omega
              case ex4 => have := hb.size; simp; omega
              intro v' w1 hown' hgrow
              go_wp2
              go_roundw
              case rel => exact rel_two hk1 HK.out HNO.out (.inr P.out) hl HX.out (by rw [X2.out]; exact hown') ((hb.alloc hb.size _).grown hgrow (by have := hb.size; simp; omega) (fun q hq => (HO.out.lt q hq).1)) HG.out
              case measure => simp [intOf]; omega
            have HP := Lib.hid p
            have HP2 := Lib.hid p2
            have x2 := ext_two t k hk1
            by_cases s1 : t[k] = 33
            · have s2 : ¬ t[k + 1] = 61 := fun q => p ⟨s1, q⟩
              have s3 : (t[k + 1] == 61) = false := by simpa using s2
              rw [s1] at x2
              clear p p2 s1
              go_wp2
              go_ret2
              refine ⟨?_, hb⟩
              rw [← HG.out, drop_cons t (k + 1) hk1, go_bad HK.out HNO.out (fun q => q.elim HP.out HP2.out)]
              exact rfl
            by_cases s4 : t[k] = 46
            · have s2 : ¬ t[k + 1] = 46 := fun q => p2 ⟨s4, q⟩
              have s3 : (t[k + 1] == 46) = false := by simpa using s2
              rw [s4] at x2
              clear p p2 s1 s4
              go_wp2
              go_ret2
              refine ⟨?_, hb⟩
              rw [← HG.out, drop_cons t (k + 1) hk1, go_bad HK.out HNO.out (fun q => q.elim HP.out HP2.out)]
              exact rfl
            have s5 : (t[k] == 33) = false := by simpa using s1
            have s6 : (t[k] == 46) = false := by simpa using s4
            clear p p2
            go_wp2
            go_ret2
            refine ⟨?_, hb⟩
            rw [← HG.out, drop_cons t (k + 1) hk1, go_bad HK.out HNO.out (fun q => q.elim HP.out HP2.out)]
            exact rfl
          · have hk2 : k + 1 = t.size := by omega
            have hk1i : decide ((k : Int) + 1 < (t.size : Int)) = false := by simp; omega
            have HK2 := Lib.hid hk2
            clear hk2
            go_wp2
            go_ret2
            have hz : t.data.toList.drop (k + 1) = [] := List.drop_of_length_le (by rw [size_toList]; have := HK2.out; omega)
            refine ⟨?_, hb⟩
            rw [← HG.out, hz, go_bad1 HK.out HNO.out]
            exact rfl
        · have k0' : decide ((0 : Int) < (kd : Int)) = true := by simp; omega
          by_cases kl : kd = last
          · have kl' : ((kd : Int) == (last : Int)) = true := by simp [kl]
            have hpos : 0 < acc.length := List.length_pos_iff.2 (HNE.out (by omega))
            obtain ⟨m, hm⟩ : ∃ m, acc.length = m + 1 := ⟨acc.length - 1, by omega⟩
            obtain ⟨g, cap, rfl, hg0, hg1, hc⟩ := own_some hown hpos
            have hcx : wr.cell? ⟨g, m, none⟩ = some (strv (acc.getD m [])) := by
              rw [hc m (by omega)]
              simp [List.getD_eq_getElem?_getD, List.getElem?_eq_getElem (show m < acc.length by omega)]
            have hfx : wr.frozen? ⟨g, m, none⟩ = false := by
              rcases hown.2 with ⟨hv, _⟩ | ⟨g2, cap2, cur, hv, _, hh, _⟩
              · cases hv
              · cases hv; exact Lib.frozen_of_heap hh m
            have hxl : (acc.getD m []).length ≤ k := by
              refine HX.out _ ?_
              rw [List.getD_eq_getElem?_getD, List.getElem?_eq_getElem (show m < acc.length by omega)]
              exact List.getElem_mem _
            obtain ⟨lw, hlw⟩ : ∃ x, x = acc.getD m [] := ⟨_, rfl⟩
            rw [← hlw] at hcx hxl
            have HLW := Lib.hid hlw
            have HO := Lib.hid hown
            have HM := Lib.hid hm
            subst kl
            have hmk : m + 1 ≤ k := by omega
            rw [hm]
            clear hlw hown hm hc hl hpos
            go_wp2_with fail
            have b1 : IntKind.i64.wrap (m : Int) = (m : Int) := IntWalk.i64_in _ (by omega)
            have b6 : m < m + 1 := by omega
            have b8 : (k : Int) + 1 ≤ (t.size : Int) := by omega
            have b9 : (k : Int) ≤ (k : Int) + 1 := by omega
            have b10 : (0 : Int) ≤ (k : Int) + 1 := by omega
            have b11 : k + 1 ≤ t.size := by omega
            have b12 : (0 : Int) ≤ (k : Int) := by omega
            have b13 : (9223372036854775807 < lw.length + 1) = False := eq_false (by omega)
            have b7 : (m : Int) < (m : Int) + 1 := by omega
            have b2 : (0 : Int) ≤ (m : Int) := by omega
            have b3 : ((m : Int)).toNat = m := by omega
            have b4 : IntKind.i64.wrap ((k : Int) + 1) = (k : Int) + 1 := IntWalk.i64_in _ (by omega)
            have b5 : ((k : Int) + 1).toNat = k + 1 := by omega
            go_still_tail 17, (by kernel_rfl)
            go_wp2
            exact ⟨rel_join hlt HK.out k3 k0 hk3 HM.out hmk HLW.out HX.out HO.out hg0 hb HG.out, by simp [intOf]; omega⟩
          · have kl' : ((kd : Int) == (last : Int)) = false := by simp; omega
            have KL := Lib.hid kl
            have HO := Lib.hid hown
            have k0i : (0 : Int) < (kd : Int) := by omega
            clear kl
            go_wp2_with (at_builtin; refine app_own elem_strs rfl _ _ rfl w.heap.size _ _ _ rfl (hown.alloc _) ⟨wr.heap.size, 0, none⟩ 1 1 [.string (t.extract k (k + 1))] rfl rfl ?c1 ?c2 ?c3 ?c4 ?_)
            case c1 => exact cells_one (by simp)
            case c2 => intro u hu; simp at hu; subst hu; rfl
            case c3 => omega
            case c4 => have := hb.size; simp; omega
            intro v' w1 hown' hgrow
            go_wp2
            go_roundw
            case rel => exact rel_one hlt HK.out k3 (fun q => KL.out q.2) hk3 (.inl (by omega)) hl HX.out hown' ((hb.alloc hb.size _).grown hgrow (by have := hb.size; simp; omega) (fun q hq => (HO.out.lt q hq).1)) HG.out
            case measure => simp [intOf]; omega
    · go_wp2
      go_ret2
      have hz : t.data.toList.drop k = [] := List.drop_of_length_le (by simp; omega)
      rw [hz] at hgo
      refine ⟨?_, hb⟩
      rw [← hgo]
      exact ⟨_, rfl, hown⟩
end Go.Proofs.YtkhdbolnhcfgkaaGreatDoor

/- Walks of package decimal: values, nonzero, Zero. -/
namespace Go.Proofs.YtkhdbolnhcfgkaaGreatDoor
open Go Go.RowKit
set_option maxRecDepth 10000

theorem elem_bytes : Elem Tryz.prog 71 5 (.int .u8 0) 1 1 :=
  ⟨Tryz.underlying71, info_parts (by kernel_rfl), rfl, by decide, by decide⟩

/-- the values of digits as cells -/
def digs (l : List UInt8) : List Value := l.map fun c => .int .u8 ((c.toNat : Int) - 48)

def ValuesPost (l : List UInt8) (w : World) (e : Ending) (w' : World) : Prop :=
  (if l.all isDig then ∃ v, e = .returned (.tuple #[v, .bool true]) ∧ w'.ownsRow w.heap.size 5 1 v l.length (digs l) else e = .returned (.tuple #[.slice none 0 0, .bool false])) ∧ Below w.heap.size w w'

theorem cell_made (w : World) (c : Array Value) (t : TypeId) (fr : Nat × Nat) (i : Nat) : (w.alloc (.cells c t fr)).cell? ⟨w.heap.size, i, none⟩ = c[i]? := by
  show (match (w.heap.push (.cells c t fr))[w.heap.size]? with | some (.cells c _ _) => c[i]? | _ => none) = _
  simp

theorem digit_yes (c : UInt8) (h : isDig c = true) : IntKind.u8.wrap ((c.toNat : Int) - 48) = (c.toNat : Int) - 48 ∧ (c.toNat : Int) - 48 ≤ 9 := by
  have := (isDig_iff _).1 h
  refine ⟨?_, by omega⟩
  simp only [IntKind.wrap, IntKind.signed, IntKind.bits]
  simp
  omega
theorem digit_no (c : UInt8) (h : isDig c = false) : 9 < ((c.toNat : Int) - 48) % 256 := by
  have := (isDig_false _).1 h
  have := c.toNat_lt
  omega

set_option maxHeartbeats 800000 in
theorem values_any (s : ByteArray) (w : World) (hs : s.size ≤ 1000000) :
    Calls Tryz.prog 39 #[.string s] w (ValuesPost s.data.toList w) := by
  have hcv := fun w s => run_bytes_of_string (P := Tryz.prog) w 9 71 5 s Tryz.underlying9 Tryz.underlying71 Tryz.underlying5
  obtain ⟨i, hi, hz, h2, h3⟩ := elem_bytes.info
  go_enter Tryz.func39, Tryz.ntmps39
  go_wp2_with (refine wpList_make_own _ rfl _ _ _ rfl w.heap.size _ i _ 1 elem_bytes.under hi hz h2 .i64 .i64 _ s.size rfl rfl ?c1 ?c2 ?c3 ?c4 ?_)
  case c1 => first | rfl | simp
  case c2 => rw [h3]; omega
  case c3 => unfold maxLen; omega
  case c4 => simp
  intro w1 hown0 hg1
  go_wp2
  refine wp_gen ?_
  intro wc hwc
  have hsz : wc.heap.size = w1.heap.size + 1 := by rw [hwc]; simp
  have hb1 : Below w.heap.size w w1 := (Below.refl _ _).grown hg1 (Nat.le_refl _) (by simp)
  have hb0 : Below w.heap.size w wc := by rw [hwc]; exact (Below.drew hb1).alloc hb1.size _
  have hcell : ∀ j (hj : j < s.size), wc.cell? ⟨w1.heap.size, j, none⟩ = some (.int .u8 (s[j].toNat : Int)) := by
    intro j hj
    rw [hwc]
    have := bytesRow_at s (grownCap w1 s.size 0 5) j hj
    show (w1.alloc _).cell? _ = _
    rw [cell_made]
    exact this
  have hownc : wc.ownsRow w.heap.size 5 1 (Value.slice (some ⟨w.heap.size, 0, none⟩) 0 s.size) 0 [] := by rw [hwc]; exact (World.ownsRow.drew hown0).alloc _
  have hw1 := hb1.size
  have hlt1 := (hown0.lt w.heap.size rfl).2
  clear hwc hown0 hg1
  go_loopw [4, 14] (fun v i wr => ∃ k : Nat, k ≤ s.size ∧ i = .int .i64 k ∧ v = .slice (some ⟨w.heap.size, 0, none⟩) k s.size ∧ wr.ownsRow w.heap.size 5 1 v k (digs (s.data.toList.take k)) ∧ Below w.heap.size w wr ∧ (s.data.toList.take k).all isDig = true ∧ (w1.heap.size < wr.heap.size) ∧ ∀ j (hj : j < s.size), wr.cell? ⟨w1.heap.size, j, none⟩ = some (.int .u8 (s[j].toNat : Int))) (fun _ i _ => s.size - (intOf i).toNat)
  case atStart => exact ⟨0, by omega, rfl, rfl, by simpa [digs] using hownc, hb0, by simp, by omega, hcell⟩
  case round =>
    obtain ⟨k, hk, rfl, hv, hown, hb, hH, hws, hcell⟩ := hrel
    have HH := Lib.hid hH
    have HV := Lib.hid hv
    clear hH hv
    by_cases hlt : k < s.size
    · have hc := hcell k hlt
      by_cases hd : isDig s[k] = true
      · obtain ⟨hy, hy9⟩ := digit_yes _ hd
        have HD := Lib.hid hd
        clear hd
        have hown2 : wr.ownsRow w.heap.size 5 1 (.slice (some ⟨w.heap.size, 0, none⟩) k s.size) k (digs (s.data.toList.take k)) := by rw [← HV.out]; exact hown
        go_wp2_with (at_builtin; refine wpList_append_own_spare _ rfl _ _ _ rfl w.heap.size _ i 1 elem_bytes.under hi h2 w.heap.size k s.size (digs (s.data.toList.take k)) HV.out (hown2.alloc _) ⟨wr.heap.size, 0, none⟩ 1 1 [.int .u8 ((s[k].toNat : Int) - 48)] rfl rfl ?c1 ?c2 ?c3 ?_)
        case c1 => exact cells_one (by simp)
        case c2 => intro u hu; simp at hu; subst hu; rfl
        case c3 => omega
        intro w2 hown3 hgrow
        have hw2 := hgrow.size
        have hts := all_snoc HH.out HD.out
        rw [← take_snoc s k hlt] at hts
        have HT := Lib.hid hts
        clear hts
        go_wp2
        go_roundw
        case rel =>
          refine ⟨k + 1, by omega, by go_num, rfl, ?_, ((hb.alloc hb.size _).grown hgrow (by have := hb.size; simp; omega) (fun q hq => by cases hq; exact Nat.le_refl _)), HT.out, ?_, ?_⟩
          · rw [take_snoc s k hlt]
            simpa [digs] using hown3
          · simp at hw2; omega
          · intro j hj
            refine hgrow.cell ?_ (by simp; omega)
            rw [World.cell?_alloc_lt _ _ _ hws]
            exact hcell j hj
        case measure => simp [intOf]; omega
      · have hd' : isDig s[k] = false := by simpa using hd
        have hn := digit_no _ hd'
        have hfin : s.data.toList.all isDig = false := all_false_of s k hlt hd'
        have HF := Lib.hid hfin
        clear hfin hd hd'
        go_wp2
        go_ret2
        refine ⟨by rw [HF.out]; rfl, hb⟩
    · have hk' : k = s.size := by omega
      subst hk'
      have HA := HH.out
      rw [take_all] at HA
      rw [take_all] at hown
      have HF := Lib.hid HA
      clear HA HH
      go_wp2
      go_ret2
      refine ⟨?_, hb⟩
      rw [if_pos HF.out, size_toList]
      exact ⟨_, rfl, hown⟩

theorem nonzero_any (d : Int) (w : World) : Calls Tryz.prog 63 #[.int .u8 d] w fun e w' => e = .returned (.bool (d != 0)) ∧ w = w' := by
  go_enter Tryz.func63, Tryz.ntmps63
  go_wp2
  go_ret
  exact ⟨rfl, rfl⟩

theorem any_of {l : List Int} {k : Nat} (h : k < l.length) (hn : (l[k] != 0) = true) : l.any (· != 0) = true := List.any_eq_true.2 ⟨l[k], List.getElem_mem h, hn⟩
theorem any_snoc {l : List Int} {k : Nat} (h : k < l.length) (hz : (l.take k).any (· != 0) = false) (hn : (l[k] != 0) = false) : (l.take (k + 1)).any (· != 0) = false := by
  rw [List.take_succ_eq_append_getElem h, List.any_append, hz]
  simpa using hn

def BytesAt (w : World) (a : Option Addr) (l : List Int) : Prop := ∀ j (h : j < l.length), ∃ b, a = some b ∧ w.cell? (b.add j) = some (.int .u8 l[j])

theorem BytesAt.alloc {w : World} {a : Option Addr} {l : List Int} (h : BytesAt w a l) (o : Obj) : BytesAt (w.alloc o) a l := fun j hj => by
  obtain ⟨b, hb, hc⟩ := h j hj
  refine ⟨b, hb, ?_⟩
  rw [World.cell?_alloc_some _ _ _ (by rw [hc]; rfl)]
  exact hc

set_option maxHeartbeats 400000 in
theorem indexNZ_any (l : List Int) (a : Option Addr) (c : Nat) (w : World) (hl : l.length ≤ 1000000) (hc : BytesAt w a l) :
    Calls Tryz.prog 83 #[.slice a l.length c, .func (.func 63) #[] #[]] w fun e w' => (∃ n : Int, e = .returned (.int .i64 n) ∧ decide (0 ≤ n) = l.any (· != 0)) ∧ w = w' := by
  go_enter Tryz.func83, Tryz.ntmps83
  go_wp2
  go_loop [8] (fun i => ∃ k : Nat, k ≤ l.length ∧ i = .int .i64 k ∧ (l.take k).any (· != 0) = false) (fun i => l.length - (intOf i).toNat)
  case atStart => exact ⟨0, by omega, rfl, by simp⟩
  case round =>
    obtain ⟨k, hk, rfl, hz⟩ := hrel
    have HZ := Lib.hid hz
    clear hz
    by_cases hlt : k < l.length
    · obtain ⟨b, rfl, hcell⟩ := hc k hlt
      go_wp2_with fail
      refine (nonzero_any _ _).mono ?_
      rintro e w' ⟨rfl, rfl⟩
      by_cases hn : (l[k] != 0) = true
      · have HF := Lib.hid (any_of hlt hn)
        go_wp2
        go_ret
        exact ⟨⟨_, rfl, by rw [HF.out]; simp⟩, rfl⟩
      · have hn' : (l[k] != 0) = false := by simpa using hn
        have HF := Lib.hid (any_snoc hlt HZ.out hn')
        clear hn
        go_wp2
        go_round
        case rel => exact ⟨k + 1, by omega, by go_num, HF.out⟩
        case measure => simp [intOf]; omega
    · have hk' : k = l.length := by omega
      subst hk'
      have hz := HZ.out
      rw [List.take_length] at hz
      have HF := Lib.hid hz
      clear hz HZ
      go_wp2
      go_ret
      exact ⟨⟨_, rfl, by rw [HF.out]; rfl⟩, rfl⟩

theorem containsNZ_any (l : List Int) (a : Option Addr) (c : Nat) (w : World) (hl : l.length ≤ 1000000) (hc : BytesAt w a l) :
    Calls Tryz.prog 62 #[.slice a l.length c, .func (.func 63) #[] #[]] w fun e w' => e = .returned (.bool (l.any (· != 0))) ∧ w = w' := by
  go_enter Tryz.func62, Tryz.ntmps62
  go_wp2_with fail
  refine (indexNZ_any l a c w hl hc).mono ?_
  rintro e w' ⟨⟨n, rfl, hn⟩, rfl⟩
  go_wp2
  go_ret
  exact ⟨rfl, rfl⟩

theorem zero_any (l : List Int) (a : Option Addr) (c : Nat) (b : Bool) (sc : Int) (w : World) (hl : l.length ≤ 1000000) (hc : BytesAt w a l) :
    Calls Tryz.prog 40 #[.agg #[.bool b, .slice a l.length c, .int .i64 sc]] w fun e w' => e = .returned (.bool (!l.any (· != 0))) ∧ Below w.heap.size w w' := by
  go_enter Tryz.func40, Tryz.ntmps40
  go_wp2_with fail
  refine (containsNZ_any l a c _ hl (hc.alloc _)).mono ?_
  rintro e w' ⟨rfl, rfl⟩
  go_wp2
  go_ret
  exact ⟨rfl, (Below.refl _ _).alloc (Nat.le_refl _) _⟩
end Go.Proofs.YtkhdbolnhcfgkaaGreatDoor

/- The document's rules: lists of words, parted at a word. -/
namespace Go.Proofs.YtkhdbolnhcfgkaaGreatDoor
open Go Go.RowKit
set_option maxRecDepth 10000

theorem toList_at (s : ByteArray) : s.toList = s.data.toList := by
  exact Go.ByteArray.toList_eq s

/-- words parted at a word; 'cur': what has been met of the part at hand -/
def partsGo (m : List UInt8) : List (List UInt8) → List (List UInt8) → List (List (List UInt8))
  | cur, [] => [cur]
  | cur, x :: t => if x = m then cur :: partsGo m [] t else partsGo m (cur ++ [x]) t
def partsL (m : List UInt8) (l : List (List UInt8)) : List (List (List UInt8)) := partsGo m [] l

theorem elem_rows : Elem Tryz.prog 87 22 (.slice none 0 0) 1 24 :=
  ⟨Tryz.underlying87, info_parts (by kernel_rfl), rfl, by decide, by decide⟩

/-- a list of lists of texts, a row of the call's own; what is parted lies in an elder world -/
def PartsAt (w0 w : World) (base : Nat) (v : Value) (ps : List (List (List UInt8))) : Prop :=
  ∃ vs : List Value, w.ownsRow base 22 1 v ps.length vs ∧ ∀ j (h : j < ps.length), ∃ u, vs[j]? = some u ∧ StrsAt w0 u ps[j]

theorem add_add (a : Addr) (i j : Nat) : (a.add i).add j = a.add (i + j) := by
  unfold Addr.add
  by_cases hi : i = 0
  · subst hi; simp
  · by_cases hj : j = 0
    · subst hj; simp
    · simp [hi, hj, Nat.add_assoc]

/-- a piece of a list of texts -/
theorem StrsAt.piece {w : World} {a : Addr} {n cap : Nat} {ws : List (List UInt8)} (hn : ws.length = n) (hc : n ≤ cap) (hm : cap ≤ maxLen) (hcell : ∀ j (h : j < ws.length), w.cell? (a.add j) = some (strv ws[j])) (f i : Nat) (hf : f ≤ i) (hi : i ≤ n) :
    StrsAt w (.slice (some (a.add f)) (i - f) (cap - f)) ((ws.take i).drop f) := by
  have hl : ((ws.take i).drop f).length = i - f := by simp; omega
  refine ⟨some (a.add f), cap - f, by rw [hl], by omega, by omega, (fun h => by cases h), fun j hj => ⟨_, rfl, ?_⟩⟩
  rw [hl] at hj
  rw [add_add, hcell (f + j) (by omega)]
  simp

/-- the loop's relation -/
def PartsRel (m : List UInt8) (n : Nat) (ws : List (List UInt8)) (w : World) (v f i : Value) (wr : World) : Prop :=
  ∃ (k fr : Nat) (acc : List (List (List UInt8))), k ≤ n + 1 ∧ fr ≤ k ∧ i = .int .i64 k ∧ f = .int .i64 fr ∧ PartsAt w wr w.heap.size v acc ∧ Below w.heap.size w wr ∧ acc.length ≤ k ∧
    partsL m ws = (if k ≤ n then acc ++ partsGo m ((ws.take k).drop fr) (ws.drop k) else acc)

theorem PartsAt.more {w wr w1 : World} {base : Nat} {v v' : Value} {acc : List (List (List UInt8))} {vs : List Value} {u : Value} {p : List (List UInt8)} (hl : vs.length = acc.length)
    (hp : ∀ j (h : j < acc.length), ∃ u, vs[j]? = some u ∧ StrsAt w u acc[j]) (ho : w1.ownsRow base 22 1 v' (acc.length + 1) (vs ++ [u])) (hu : StrsAt w u p) : PartsAt w w1 base v' (acc ++ [p]) := by
  refine ⟨vs ++ [u], by simpa using ho, fun j h => ?_⟩
  by_cases hj : j < acc.length
  · obtain ⟨x, hx, hs⟩ := hp j hj
    exact ⟨x, by rw [List.getElem?_append_left (by omega)]; exact hx, by rw [List.getElem_append_left hj]; exact hs⟩
  · have e : j = acc.length := by simp at h; omega
    subst e
    refine ⟨u, by rw [List.getElem?_append_right (by omega), hl]; simp, ?_⟩
    rw [List.getElem_append_right (by omega)]
    simpa using hu

theorem rel_cut {m : List UInt8} {n k fr : Nat} {ws : List (List UInt8)} {w w1 : World} {v' u : Value} {acc : List (List (List UInt8))} {vs : List Value} (hn : n = ws.length) (hlt : k < n) (hf : fr ≤ k) (hq : ws[k] = m) (hl : vs.length = acc.length) (hk : acc.length ≤ k)
    (hp : ∀ j (h : j < acc.length), ∃ u, vs[j]? = some u ∧ StrsAt w u acc[j]) (ho : w1.ownsRow w.heap.size 22 1 v' (acc.length + 1) (vs ++ [u])) (hu : StrsAt w u ((ws.take k).drop fr))
    (hb : Below w.heap.size w w1) (hG : partsL m ws = (if k ≤ n then acc ++ partsGo m ((ws.take k).drop fr) (ws.drop k) else acc)) :
    PartsRel m n ws w v' (.int .i64 ((k : Int) + 1)) (.int .i64 ((k : Int) + 1)) w1 := by
  refine ⟨k + 1, k + 1, acc ++ [(ws.take k).drop fr], by omega, by omega, by go_num, by go_num, PartsAt.more (wr := w) (v := v') hl hp ho hu, hb, by simp; omega, ?_⟩
  rw [if_pos (by omega)] at hG
  rw [if_pos (by omega), hG, List.drop_eq_getElem_cons (by omega : k < ws.length)]
  have e : ((ws.take (k + 1)).drop (k + 1)) = [] := List.drop_of_length_le (by simp; omega)
  rw [e, partsGo, if_pos hq]
  simp

theorem rel_on {m : List UInt8} {n k fr : Nat} {ws : List (List UInt8)} {w w1 : World} {v : Value} {acc : List (List (List UInt8))} (hn : n = ws.length) (hlt : k < n) (hf : fr ≤ k) (hq : ¬ ws[k] = m) (hk : acc.length ≤ k)
    (hp : PartsAt w w1 w.heap.size v acc) (hb : Below w.heap.size w w1) (hG : partsL m ws = (if k ≤ n then acc ++ partsGo m ((ws.take k).drop fr) (ws.drop k) else acc)) :
    PartsRel m n ws w v (.int .i64 fr) (.int .i64 ((k : Int) + 1)) w1 := by
  refine ⟨k + 1, fr, acc, by omega, by omega, by go_num, rfl, hp, hb, by omega, ?_⟩
  rw [if_pos (by omega)] at hG
  have e : (ws.take (k + 1)).drop fr = (ws.take k).drop fr ++ [ws[k]] := by
    rw [List.take_succ_eq_append_getElem (by omega), List.drop_append_of_le_length (by simp; omega)]
  rw [if_pos (by omega), hG, List.drop_eq_getElem_cons (by omega : k < ws.length), partsGo, if_neg hq, e]

theorem rel_end {m : List UInt8} {n k fr : Nat} {ws : List (List UInt8)} {w w1 : World} {v' u : Value} {acc : List (List (List UInt8))} {vs : List Value} (hn : n = ws.length) (hkn : k = n) (hl : vs.length = acc.length) (hk : acc.length ≤ k)
    (hp : ∀ j (h : j < acc.length), ∃ u, vs[j]? = some u ∧ StrsAt w u acc[j]) (ho : w1.ownsRow w.heap.size 22 1 v' (acc.length + 1) (vs ++ [u])) (hu : StrsAt w u ((ws.take k).drop fr))
    (hb : Below w.heap.size w w1) (hG : partsL m ws = (if k ≤ n then acc ++ partsGo m ((ws.take k).drop fr) (ws.drop k) else acc)) :
    PartsRel m n ws w v' (.int .i64 ((k : Int) + 1)) (.int .i64 ((k : Int) + 1)) w1 := by
  refine ⟨k + 1, k + 1, acc ++ [(ws.take k).drop fr], by omega, by omega, by go_num, by go_num, PartsAt.more (wr := w) (v := v') hl hp ho hu, hb, by simp; omega, ?_⟩
  rw [if_pos (by omega)] at hG
  rw [if_neg (by omega), hG, List.drop_of_length_le (by omega : ws.length ≤ k), partsGo]

set_option maxHeartbeats 4000000 in
theorem parts_some (m : ByteArray) (a : Addr) (cap : Nat) (ws : List (List UInt8)) (w : World) (hc : ws.length ≤ cap) (hm : cap ≤ maxLen) (hw : ws.length ≤ 1000000) (hcell : ∀ j (h : j < ws.length), w.cell? (a.add j) = some (strv ws[j])) :
    Calls Tryz.prog 33 #[.slice (some a) ws.length cap, .string m] w fun e w' => (∃ v, e = .returned v ∧ PartsAt w w' w.heap.size v (partsL m.data.toList ws)) ∧ Below w.heap.size w w' := by
  have HC := Lib.hid hcell
  clear hcell
  obtain ⟨n, hn⟩ : ∃ n, n = ws.length := ⟨_, rfl⟩
  rw [← hn] at hc hw ⊢
  have HN := Lib.hid hn
  clear hn
  go_enter Tryz.func33, Tryz.ntmps33
  go_wp2
  go_loopw [5, 6, 7] (fun v f i wr => PartsRel m.data.toList n ws w v f i wr) (fun _ _ i _ => n + 1 - (intOf i).toNat)
  case atStart => exact ⟨0, 0, [], by omega, by omega, rfl, rfl, ⟨[], World.ownsRow_nil _ _ _ _, fun j h => absurd h (Nat.not_lt_zero j)⟩, Below.refl _ _, by simp, by rw [if_pos (Nat.zero_le _)]; simp [partsL]⟩
  case round =>
    obtain ⟨k, fr, acc, hk, hf, rfl, rfl, hp, hb, hl, hgo⟩ := hrel
    have HG := Lib.hid hgo
    have HP := Lib.hid hp
    clear hgo hp
    by_cases hlt : k < n
    · have hx := HC.out k (by rw [← HN.out]; exact hlt)
      have hx2 : wr.cell? (a.add k) = some (strv ws[k]) := by rw [hb.cell (World.block_lt_of_cell? w _ hx)]; exact hx
      have hne : ((k : Int) == (n : Int)) = false := by simp; omega
      clear hx
      have hu := StrsAt.piece (f := fr) (i := k) HN.out.symm hc hm HC.out hf (by omega)
      have HU := Lib.hid hu
      clear hu
      by_cases hq : ws[k] = m.data.toList
      · have hq' : (ws[k] == m.toList) = true := by rw [toList_at, hq]; simp
        obtain ⟨vs, hown, hpc⟩ := HP.out
        have HQ := Lib.hid hq
        have HO := Lib.hid hown
        have HPC := Lib.hid hpc
        clear hq hpc
        go_wp2_with (at_builtin; refine app_own elem_rows rfl _ _ rfl w.heap.size _ _ _ rfl (hown.alloc _) ⟨wr.heap.size, 0, none⟩ 1 1 [.slice (some (a.add fr)) (k - fr) (cap - fr)] rfl rfl ?c1 ?c2 ?c3 ?c4 ?_)
        case c1 => exact cells_one (cell_made _ _ _ _ _)
        case c2 => intro u hu; simp at hu; subst hu; rfl
        case c3 => omega
        case c4 => have := hb.size; simp; omega
        intro v' w1 hown' hgrow
        go_wp2
        go_roundw
        case rel => exact rel_cut HN.out hlt hf HQ.out (by have := HO.out.1; omega) hl HPC.out hown' HU.out ((hb.alloc hb.size _).grown hgrow (by have := hb.size; simp; omega) (fun q hq => (HO.out.lt q hq).1)) HG.out
        case measure => simp [intOf]; omega
      · have hq' : (ws[k] == m.toList) = false := by rw [toList_at]; simpa using hq
        have HQ := Lib.hid hq
        clear hq
        go_wp2
        go_roundw
        case rel => exact rel_on HN.out hlt hf HQ.out hl HP.out hb HG.out
        case measure => simp [intOf]; omega
    · by_cases hkn : k = n
      · have hne : ((k : Int) == (n : Int)) = true := by simp [hkn]
        have hle : decide ((k : Int) ≤ (n : Int)) = true := by simp [hkn]
        have hkn2 : k ≤ n := by omega
        have hu := StrsAt.piece (f := fr) (i := k) HN.out.symm hc hm HC.out hf (by omega)
        have HU := Lib.hid hu
        obtain ⟨vs, hown, hpc⟩ := HP.out
        have HKN := Lib.hid hkn
        have HO := Lib.hid hown
        have HPC := Lib.hid hpc
        by_cases hfc : cap = fr
        · have hkf : k = fr := by omega
          have hu2 : StrsAt w (.slice (some a) 0 0) ((ws.take k).drop fr) := by
            have e : (ws.take k).drop fr = [] := List.drop_of_length_le (by simp; omega)
            rw [e]
            exact ⟨some a, 0, rfl, Nat.le_refl _, Nat.zero_le _, fun _ => rfl, fun j h => absurd h (Nat.not_lt_zero j)⟩
          have HU2 := Lib.hid hu2
          have hcc : cap = k := by omega
          clear hkn hpc hu hu2
          subst hfc
          subst hkf
          go_wp2_with (at_builtin; refine app_own elem_rows rfl _ _ rfl w.heap.size _ _ _ rfl (hown.alloc _) ⟨wr.heap.size, 0, none⟩ 1 1 [(.slice (some a) 0 0)] rfl rfl ?d1 ?d2 ?d3 ?d4 ?_)
          case d2 => rfl
          case d3 => omega
          case d4 => have := hb.size; simp; omega
          intro v' w1 hown' hgrow
          go_wp2
          go_roundw
          case rel => exact rel_end HN.out HKN.out (by have := HO.out.1; omega) hl HPC.out hown' HU2.out ((hb.alloc hb.size _).grown hgrow (by have := hb.size; simp; omega) (fun q hq => (HO.out.lt q hq).1)) HG.out
          case measure => simp [intOf]; omega
        · clear hkn hpc hu
          have hfc2 : ¬ (cap : Int) = (fr : Int) := by omega
          have hfc3 : ¬ fr = cap := fun q => hfc q.symm
          go_wp2_with (at_builtin; refine app_own elem_rows rfl _ _ rfl w.heap.size _ _ _ rfl (hown.alloc _) ⟨wr.heap.size, 0, none⟩ 1 1 [(.slice (some (a.add fr)) (k - fr) (cap - fr))] rfl rfl ?e1 ?e2 ?e3 ?e4 ?_)
          case e1 => exact cells_one (cell_made _ _ _ _ _)
          case e2 => intro u hu; simp at hu; subst hu; rfl
          case e3 => omega
          case e4 => have := hb.size; simp; omega
          intro v' w1 hown' hgrow
          go_wp2
          go_roundw
          case rel => exact rel_end HN.out HKN.out (by have := HO.out.1; omega) hl HPC.out hown' HU.out ((hb.alloc hb.size _).grown hgrow (by have := hb.size; simp; omega) (fun q hq => (HO.out.lt q hq).1)) HG.out
          case measure => simp [intOf]; omega
      · have hgt : ¬ k ≤ n := by omega
        have hle : decide ((k : Int) ≤ (n : Int)) = false := by simp; omega
        have hgo := HG.out
        rw [if_neg hgt] at hgo
        have HGO := Lib.hid hgo
        clear hgo
        go_wp2
        go_ret
        exact ⟨⟨_, rfl, by rw [HGO.out]; exact HP.out⟩, hb⟩

set_option maxHeartbeats 1000000 in
theorem parts_nil (m : ByteArray) (w : World) :
    Calls Tryz.prog 33 #[.slice none 0 0, .string m] w fun e w' => (∃ v, e = .returned v ∧ PartsAt w w' w.heap.size v (partsL m.data.toList [])) ∧ Below w.heap.size w w' := by
  go_enter Tryz.func33, Tryz.ntmps33
  go_wp2
  refine wp_loop_rounds 2 ?_
  rw [rounds_succ]
  go_wp2_with (at_builtin; refine app_own elem_rows rfl _ _ rfl w.heap.size _ _ _ rfl (World.ownsRow_nil _ _ _ _) ⟨w.heap.size, 0, none⟩ 1 1 [.slice none 0 0] rfl rfl ?c1 ?c2 ?c3 ?c4 ?_)
  case c1 => exact cells_one (cell_made _ _ _ _ _)
  case c2 => intro u hu; simp at hu; subst hu; rfl
  case c3 => decide
  case c4 => simp
  intro v' w1 hown hgrow
  have hb : Below w.heap.size w w1 := ((Below.refl _ _).alloc (Nat.le_refl _) _).grown hgrow (by simp) (fun q hq => by cases hq)
  clear hgrow
  go_wp2
  rw [rounds_succ]
  go_wp2
  go_ret
  refine ⟨⟨_, rfl, [.slice none 0 0], hown, fun j h => ?_⟩, hb⟩
  have e : j = 0 := by simp [partsL, partsGo] at h; omega
  subst e
  exact ⟨_, rfl, none, 0, rfl, Nat.le_refl _, Nat.zero_le _, fun _ => rfl, fun j h => absurd h (Nat.not_lt_zero j)⟩

/-- a list of texts, parted at a word -/
theorem parts_any (m : ByteArray) (v : Value) (ws : List (List UInt8)) (w : World) (h : StrsAt w v ws) (hw : ws.length ≤ 1000000) :
    Calls Tryz.prog 33 #[v, .string m] w fun e w' => (∃ v, e = .returned v ∧ PartsAt w w' w.heap.size v (partsL m.data.toList ws)) ∧ Below w.heap.size w w' := by
  obtain ⟨a, cap, rfl, hl, hm, h0, hc⟩ := h
  cases a with
  | none =>
    have hz := h0 rfl
    subst hz
    have : ws = [] := List.eq_nil_of_length_eq_zero (by omega)
    subst this
    exact parts_nil m w
  | some a =>
    refine parts_some m a cap ws w hl hm hw (fun j hj => ?_)
    obtain ⟨b, hb1, hb2⟩ := hc j hj
    cases hb1
    exact hb2
end Go.Proofs.YtkhdbolnhcfgkaaGreatDoor

/- The document's rules: whole numbers compared; noughts ahead struck; what is left by a modulus. -/
namespace Go.Proofs.YtkhdbolnhcfgkaaGreatDoor
open Go Go.RowKit
set_option maxRecDepth 10000

/-- whole numbers' digits compared -/
def cmpL (a b : List UInt8) : Int := if a.length < b.length ∨ (a.length = b.length ∧ Op.bytesLess a b = true) then -1 else if a = b then 0 else 1

set_option maxHeartbeats 1000000 in
theorem compared_any (a b : ByteArray) (w : World) (ha : a.size ≤ 1000000) (hb : b.size ≤ 1000000) :
    Calls Tryz.prog 68 #[.string a, .string b] w fun e w' => e = .returned (.int .i64 (cmpL a.data.toList b.data.toList)) ∧ w = w' := by
  have hA := toList_at a
  have hB := toList_at b
  obtain ⟨r, hr⟩ : ∃ r, cmpL a.data.toList b.data.toList = r := ⟨_, rfl⟩
  rw [hr]
  have HR := Lib.hid hr
  unfold cmpL at hr
  rw [size_toList, size_toList] at hr
  by_cases h1 : a.size < b.size
  · rw [if_pos (.inl h1)] at hr
    have h1' : decide ((a.size : Int) < (b.size : Int)) = true := by simp; omega
    have HF := Lib.hid hr
    clear hr hA hB
    go_enter Tryz.func68, Tryz.ntmps68
    go_wp2
    all_goals (first | (exfalso; omega) | (go_ret; exact ⟨by rw [← HF.out]; rfl, rfl⟩))
  · have h1' : decide ((a.size : Int) < (b.size : Int)) = false := by simp; omega
    by_cases h2 : a.size = b.size
    · have h2' : ((a.size : Int) == (b.size : Int)) = true := by simp; omega
      cases h3 : Op.bytesLess a.data.toList b.data.toList
      · rw [if_neg (by rintro (q | q)
                       · exact h1 q
                       · rw [h3] at q; cases q.2)] at hr
        rw [← hA, ← hB] at h3
        by_cases h4 : a.data.toList = b.data.toList
        · rw [if_pos h4] at hr
          have h4' : (a.toList == b.toList) = true := by rw [hA, hB, h4]; simp
          have HF := Lib.hid hr
          clear hr hA hB h4 h2
          go_enter Tryz.func68, Tryz.ntmps68
          go_wp2
          all_goals (first | (exfalso; omega) | (go_ret; exact ⟨by rw [← HF.out]; rfl, rfl⟩))
        · rw [if_neg h4] at hr
          have h4' : (a.toList == b.toList) = false := by rw [hA, hB]; simpa using h4
          have HF := Lib.hid hr
          clear hr hA hB h4 h2
          go_enter Tryz.func68, Tryz.ntmps68
          go_wp2
          all_goals (first | (exfalso; omega) | (go_ret; exact ⟨by rw [← HF.out]; rfl, rfl⟩))
      · rw [if_pos (.inr ⟨h2, h3⟩)] at hr
        rw [← hA, ← hB] at h3
        have HF := Lib.hid hr
        clear hr hA hB h2
        go_enter Tryz.func68, Tryz.ntmps68
        go_wp2
        all_goals (first | (exfalso; omega) | (go_ret; exact ⟨by rw [← HF.out]; rfl, rfl⟩))
    · have h2' : ((a.size : Int) == (b.size : Int)) = false := by simp; omega
      have h4 : ¬ a.data.toList = b.data.toList := fun q => h2 (by have := congrArg List.length q; simpa using this)
      rw [if_neg (by rintro (q | q)
                     · exact h1 q
                     · exact h2 q.1), if_neg h4] at hr
      have h4' : (a.toList == b.toList) = false := by rw [hA, hB]; simpa using h4
      have HF := Lib.hid hr
      clear hr hA hB h4
      go_enter Tryz.func68, Tryz.ntmps68
      go_wp2
      all_goals (first | (exfalso; omega) | (go_ret; exact ⟨by rw [← HF.out]; rfl, rfl⟩))
end Go.Proofs.YtkhdbolnhcfgkaaGreatDoor
