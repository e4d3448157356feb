import Derived.Test.YtkhdbolnhcfgkaaGreatDoorJ1

/- The document's rules: noughts ahead struck; what is left by a modulus. -/
namespace Go.Proofs.YtkhdbolnhcfgkaaGreatDoor
open Go Go.RowKit
set_option maxRecDepth 10000

/-- what is left of digits by a modulus -/
def leftL (l : List UInt8) (m : Nat) : Nat := l.foldl (fun r c => (10 * r + (c.toNat - 48)) % m) 0

theorem leftL_snoc (l : List UInt8) (c : UInt8) (m : Nat) : leftL (l ++ [c]) m = (10 * leftL l m + (c.toNat - 48)) % m := by simp [leftL]

theorem leftL_lt (l : List UInt8) (m : Nat) (hm : 0 < m) : leftL l m < m := by
  by_cases h : l = []
  · subst h; exact hm
  · obtain ⟨t, c, rfl⟩ : ∃ t c, l = t ++ [c] := ⟨l.dropLast, l.getLast h, by rw [List.dropLast_concat_getLast]⟩
    rw [leftL_snoc]
    exact Nat.mod_lt _ hm

theorem leftL_val (l : List UInt8) (m : Nat) : leftL l m % m = valL l % m := by
  induction hn : l.length generalizing l with
  | zero => have := List.eq_nil_of_length_eq_zero hn; subst this; rfl
  | succ n ih =>
    have h : l ≠ [] := fun q => by rw [q] at hn; cases hn
    obtain ⟨t, c, rfl⟩ : ∃ t c, l = t ++ [c] := ⟨l.dropLast, l.getLast h, by rw [List.dropLast_concat_getLast]⟩
    have ht := ih t (by simpa using hn)
    rw [leftL_snoc, valL_snoc, Nat.mod_mod, Nat.add_mod, Nat.mul_mod, ht, ← Nat.mul_mod, ← Nat.add_mod]

theorem mod_less (x y m : Nat) (h : y ≤ x) (hy : y % m = 0) : (x - y) % m = x % m := by
  obtain ⟨k, rfl⟩ : ∃ k, x = y + k := ⟨x - y, by omega⟩
  rw [Nat.add_sub_cancel_left, Nat.add_mod, hy, Nat.zero_add, Nat.mod_mod]

set_option maxHeartbeats 2000000 in
theorem left_any (s : ByteArray) (m : Nat) (w : World) (hs : s.size ≤ 1000000) (hd : s.data.toList.all isDig = true) (hm0 : 0 < m) (hm : m ≤ 1000000000) :
    Calls Tryz.prog 49 #[.string s, .int .i64 m] w fun e w' => e = .returned (.int .i64 (leftL s.data.toList m)) ∧ w = w' := by
  go_enter Tryz.func49, Tryz.ntmps49
  go_wp2
  go_loop [5, 6, 7] (fun r i _ => ∃ k : Nat, k ≤ s.size ∧ i = .int .i64 k ∧ r = .int .i64 (leftL (s.data.toList.take k) m)) (fun _ i _ => s.size - (intOf i).toNat)
  case atStart => exact ⟨0, by omega, rfl, rfl⟩
  case round =>
    obtain ⟨k, hk, rfl, rfl⟩ := hrel
    have hv := leftL_lt (s.data.toList.take k) m hm0
    by_cases hlt : k < s.size
    · have hc := (isDig_iff _).1 (all_dig_at hd k hlt)
      have hsn : leftL (s.data.toList.take (k + 1)) m = (10 * leftL (s.data.toList.take k) m + (s[k].toNat - 48)) % m := by rw [take_snoc s k hlt, leftL_snoc]
      have HS := Lib.hid hsn
      clear hsn
      obtain ⟨x, hx⟩ : ∃ x, x = leftL (s.data.toList.take k) m := ⟨_, rfl⟩
      rw [← hx] at hv HS ⊢
      clear hx
      obtain ⟨R, hR⟩ : ∃ R : Nat, (x : Int) * 10 + ((s[k].toNat : Int) - 48) = (R : Int) := ⟨x * 10 + (s[k].toNat - 48), by omega⟩
      have hR2 : R = 10 * x + (s[k].toNat - 48) := by omega
      rw [← hR2] at HS
      have hRb : R < 10000000010 := by omega
      have HR := Lib.hid hR
      clear hR2
      go_wp2
      go_loop [5, 7] (fun r _ => ∃ y : Nat, r = .int .i64 y ∧ y ≤ R ∧ y % m = R % m) (fun r _ => (intOf r).toNat)
      case atStart => exact ⟨R, by first | rfl | (congr 1; done) | (congr 1; have := HR.out; omega), Nat.le_refl _, rfl⟩
      case round =>
        obtain ⟨y, rfl, hy, hym⟩ := hrel
        have HYM := Lib.hid hym
        clear hym
        by_cases hge : m ≤ y
        · go_wp2
          go_loop [7] (fun q => ∃ z : Nat, q = .int .i64 z ∧ m ≤ z ∧ z ≤ y ∧ z % m = 0) (fun q => y - (intOf q).toNat)
          case atStart => exact ⟨m, rfl, Nat.le_refl _, hge, Nat.mod_self m⟩
          case round =>
            obtain ⟨z, rfl, hz1, hz2, hzm⟩ := hrel
            have HZM := Lib.hid hzm
            clear hzm
            by_cases h2 : z * 2 ≤ y
            · have h2i : (z : Int) * 2 ≤ (y : Int) := by omega
              go_wp2
              go_round
              case rel => exact ⟨z * 2, by go_num, by omega, h2, by rw [Nat.mul_mod, HZM.out]; simp⟩
              case measure => simp [intOf]; omega
            · have h2i : ¬ (z : Int) * 2 ≤ (y : Int) := by omega
              go_wp2
              go_round
              case rel => exact ⟨y - z, by (congr 1; omega), by omega, by rw [mod_less y z m hz2 HZM.out, HYM.out]⟩
              case measure => simp [intOf]; omega
        · have hfin : leftL (s.data.toList.take (k + 1)) m = y := by rw [HS.out, ← HYM.out]; exact Nat.mod_eq_of_lt (by omega)
          have HF := Lib.hid hfin
          clear hfin
          go_wp2
          go_round
          case rel => exact ⟨k + 1, by omega, by go_num, by rw [HF.out]⟩
          case measure => simp [intOf]; omega
    · obtain rfl : k = s.size := by omega
      go_wp2
      go_ret
      rw [take_all]
      exact ⟨rfl, rfl⟩

/-- digits without noughts ahead -/
def stripL : List UInt8 → List UInt8
  | c :: d :: t => if c = 48 then stripL (d :: t) else c :: d :: t
  | l => l
/-- .. of none: 0 -/
def plainL (l : List UInt8) : List UInt8 := if l = [] then [48] else stripL l

theorem strip_step {c : UInt8} {l : List UInt8} (h : l ≠ []) (hc : c = 48) : stripL (c :: l) = stripL l := by
  cases l with
  | nil => exact absurd rfl h
  | cons d t => rw [stripL, if_pos hc]
theorem strip_keep {c : UInt8} {l : List UInt8} (hc : ¬ c = 48) : stripL (c :: l) = c :: l := by
  cases l with
  | nil => rfl
  | cons d t => rw [stripL, if_neg hc]

set_option maxHeartbeats 1000000 in
theorem plain_any (s : ByteArray) (w : World) (hs : s.size ≤ 1000000) : Calls Tryz.prog 67 #[.string s] w fun e w' => e = .returned (strv (plainL s.data.toList)) ∧ w = w' := by
  obtain ⟨r, hr⟩ : ∃ r, plainL s.data.toList = r := ⟨_, rfl⟩
  rw [hr]
  have HR := Lib.hid hr
  clear hr
  go_enter Tryz.func67, Tryz.ntmps67
  go_wp2
  go_loop [0] (fun v => ∃ t : ByteArray, v = .string t ∧ t.size ≤ 1000000 ∧ plainL t.data.toList = r) (fun v => match v with | .string t => t.size | _ => 0)
  case atStart => exact ⟨s, rfl, hs, HR.out⟩
  case round =>
    obtain ⟨t, rfl, ht, hp⟩ := hrel
    have HP := Lib.hid hp
    clear hp
    by_cases h1 : 1 < t.size
    · have h0 : 0 < t.size := by omega
      have hl : t.data.toList = t[0] :: t.data.toList.drop 1 := by have := drop_cons t 0 h0; rwa [List.drop_zero] at this
      have HL := Lib.hid hl
      clear hl
      by_cases hc : t[0] = 48
      · have hc' : ((t[0].toNat : Int) == 48) = true := by rw [hc]; rfl
        have HC := Lib.hid hc
        clear hc
        have hx : (t.extract 1 t.size).size = t.size - 1 := by simp
        have hne : t.data.toList.drop 1 ≠ [] := by intro q; have := congrArg List.length q; simp at this; omega
        have hfin : plainL (t.extract 1 t.size).data.toList = r := by
          have e : stripL t.data.toList = stripL (t.data.toList.drop 1) := (congrArg stripL HL.out).trans (strip_step hne HC.out)
          rw [extract_drop, toList_mk, ← HP.out]
          unfold plainL
          rw [if_neg hne, if_neg (by rw [HL.out]; simp), e]
        have HF := Lib.hid hfin
        have HX := Lib.hid hx
        clear hfin hx hne
        go_wp2
        exact ⟨⟨_, rfl, by rw [HX.out]; omega, HF.out⟩, by show (t.extract 1 t.size).size < t.size; rw [HX.out]; omega⟩
      · have hc' : ((t[0].toNat : Int) == 48) = false := by rw [show ((48 : Int)) = (((48 : UInt8).toNat : Nat) : Int) from rfl, toNat_beq]; simpa using hc
        have hne : (!t.toList.isEmpty) = true := by rw [toList_at, HL.out]; rfl
        have hne2 : t.toList.isEmpty = false := by rw [toList_at, HL.out]; rfl
        have hfin : strv r = .string t := by
          rw [← HP.out]
          unfold plainL
          rw [if_neg (by rw [HL.out]; simp), HL.out, strip_keep hc, ← HL.out]
        have HF := Lib.hid hfin
        clear hc hfin
        go_wp2
        go_ret
        exact ⟨by rw [HF.out]; rfl, rfl⟩
    · by_cases h0 : t.size = 0
      · have hl : t.data.toList = [] := List.eq_nil_of_length_eq_zero (by rw [size_toList]; exact h0)
        have hne : (!t.toList.isEmpty) = false := by rw [toList_at, hl]; rfl
        have hne2 : t.toList.isEmpty = true := by rw [toList_at, hl]; rfl
        have hfin : r = [48] := by rw [← HP.out, hl]; rfl
        have HF := Lib.hid hfin
        clear hl hfin
        go_wp2
        go_ret
        exact ⟨by rw [HF.out]; rfl, rfl⟩
      · have h00 : 0 < t.size := by omega
        have hl : t.data.toList = [t[0]] := by
          have := drop_cons t 0 h00
          rw [List.drop_zero] at this
          rw [this, List.drop_of_length_le (by rw [size_toList]; omega)]
        have hne : (!t.toList.isEmpty) = true := by rw [toList_at, hl]; rfl
        have hne2 : t.toList.isEmpty = false := by rw [toList_at, hl]; rfl
        have hfin : strv r = .string t := by
          rw [← HP.out, ← show ByteArray.mk t.data.toList.toArray = t from mk_toList t, toList_mk]
          rw [hl]
          rfl
        have HF := Lib.hid hfin
        clear hl hfin
        go_wp2
        go_ret
        exact ⟨by rw [HF.out]; rfl, rfl⟩
end Go.Proofs.YtkhdbolnhcfgkaaGreatDoor

/- The document's rules: what an operand takes of a number. -/
namespace Go.Proofs.YtkhdbolnhcfgkaaGreatDoor
open Go Go.RowKit
set_option maxRecDepth 10000

/-- digits without noughts at their end -/
def shortL (l : List UInt8) : List UInt8 := (l.reverse.dropWhile (· == 48)).reverse

theorem short_nil : shortL [] = [] := rfl
theorem short_zero (l : List UInt8) : shortL (l ++ [48]) = shortL l := by simp [shortL]
theorem short_keep (l : List UInt8) (c : UInt8) (h : ¬ c = 48) : shortL (l ++ [c]) = l ++ [c] := by
  have : (c == 48) = false := by simpa using h
  simp [shortL, this]

/-- an operand of a number: digits ahead of the point, and behind it -/
def operandL (wh fr c : List UInt8) : Option (List UInt8 × List UInt8) :=
  if c = [110] then some (wh, fr) else if c = [105] then some (wh, []) else if c = [118] then some (decL fr.length, []) else if c = [119] then some (decL (shortL fr).length, [])
  else if c = [102] then some (plainL fr, []) else if c = [116] then some (plainL (shortL fr), []) else none

def OperandPost (r : Option (List UInt8 × List UInt8)) (w : World) (e : Ending) (w' : World) : Prop :=
  (match r with | some (a, b) => e = .returned (.tuple #[strv a, strv b, .bool true]) | none => e = .returned (.tuple #[strv [], strv [], .bool false])) ∧ Below w.heap.size w w'

set_option maxHeartbeats 600000 in
theorem operand_n (b : Bool) (wh fr : ByteArray) (w : World) (hf : fr.size ≤ 1000000) :
    Calls Tryz.prog 46 #[.agg #[.bool b, .string wh, .string fr], .string ⟨#[110]⟩] w fun e w' => e = .returned (.tuple #[.string wh, .string fr, .bool true]) ∧ Below w.heap.size w w' := by
  go_enter Tryz.func46, Tryz.ntmps46
  go_wp2
  go_loop [7] (fun v => ∃ t : ByteArray, v = .string t ∧ t.size ≤ 1000000 ∧ shortL t.data.toList = shortL fr.data.toList) (fun v => match v with | .string t => t.size | _ => 0)
  case atStart => exact ⟨fr, rfl, hf, rfl⟩
  case round =>
    obtain ⟨t, rfl, ht, hp⟩ := hrel
    have HP := Lib.hid hp
    clear hp
    by_cases h0 : t.size = 0
    · have hl : t.data.toList = [] := List.eq_nil_of_length_eq_zero (by rw [size_toList]; exact h0)
      have hsh : shortL fr.data.toList = t.data.toList := by rw [← HP.out, hl]; rfl
      have HSH := Lib.hid hsh
      have h00 : ¬ 0 < t.size := by omega
      clear hl hsh h0
      go_wp2_with fail
      go_quiet (fail)
      go_wp2
      go_ret3
      exact ⟨rfl, by (repeat (first | (with_reducible exact Below.refl _ _) | (with_reducible refine below_drewN ?_ _) | (with_reducible refine Below.drew ?_) | (with_reducible refine Below.alloc ?_ ?_ _; rotate_left; focus (first | (simp; done) | (simp; omega)))))⟩
    · obtain ⟨n, hn⟩ : ∃ n, t.size = n + 1 := ⟨t.size - 1, by omega⟩
      have hlt : n < t.size := by omega
      have hl : t.data.toList = t.data.toList.take n ++ [t[n]] := by rw [← take_snoc t n hlt, ← hn, take_all]
      have HL := Lib.hid hl
      have b1 : IntKind.i64.wrap ((t.size : Int) - 1) = (n : Int) := by rw [hn]; rw [show (((n + 1 : Nat) : Int) - 1) = (n : Int) by omega]; exact IntWalk.i64_in _ (by omega)
      have b2 : ((t.size : Int) - 1) = (n : Int) := by omega
      have h00 : 0 < t.size := by omega
      have HN := Lib.hid hn
      clear hl hn h0
      by_cases hc : t[n] = 48
      · have hc' : ((t[n].toNat : Int) == 48) = true := by rw [hc]; rfl
        have hfin : shortL (t.extract 0 n).data.toList = shortL fr.data.toList := by
          have e : shortL t.data.toList = shortL (t.data.toList.take n) := by
            have := congrArg shortL HL.out
            rw [hc] at this
            exact this.trans (short_zero _)
          rw [extract_take, toList_mk, ← e, HP.out]
        have HF := Lib.hid hfin
        clear hc hfin
        go_wp2
        exact ⟨⟨t.extract 0 n, rfl, by simp; omega, HF.out⟩, by show (t.extract 0 n).size < t.size; simp; omega⟩
      · have hc' : ((t[n].toNat : Int) == 48) = false := by rw [show ((48 : Int)) = (((48 : UInt8).toNat : Nat) : Int) from rfl, toNat_beq]; simpa using hc
        have hsh : shortL fr.data.toList = t.data.toList := by rw [← HP.out]; exact (congrArg shortL HL.out).trans ((short_keep _ _ hc).trans HL.out.symm)
        have HSH := Lib.hid hsh
        clear hc hsh b2
        go_wp2_with fail
        go_quiet (fail)
        go_wp2
        go_ret3
        exact ⟨rfl, by (repeat (first | (with_reducible exact Below.refl _ _) | (with_reducible refine below_drewN ?_ _) | (with_reducible refine Below.drew ?_) | (with_reducible refine Below.alloc ?_ ?_ _; rotate_left; focus (first | (simp; done) | (simp; omega)))))⟩
set_option maxHeartbeats 600000 in
theorem operand_i (b : Bool) (wh fr : ByteArray) (w : World) (hf : fr.size ≤ 1000000) :
    Calls Tryz.prog 46 #[.agg #[.bool b, .string wh, .string fr], .string ⟨#[105]⟩] w fun e w' => e = .returned (.tuple #[.string wh, strv [], .bool true]) ∧ Below w.heap.size w w' := by
  go_enter Tryz.func46, Tryz.ntmps46
  go_wp2
  go_loop [7] (fun v => ∃ t : ByteArray, v = .string t ∧ t.size ≤ 1000000 ∧ shortL t.data.toList = shortL fr.data.toList) (fun v => match v with | .string t => t.size | _ => 0)
  case atStart => exact ⟨fr, rfl, hf, rfl⟩
  case round =>
    obtain ⟨t, rfl, ht, hp⟩ := hrel
    have HP := Lib.hid hp
    clear hp
    by_cases h0 : t.size = 0
    · have hl : t.data.toList = [] := List.eq_nil_of_length_eq_zero (by rw [size_toList]; exact h0)
      have hsh : shortL fr.data.toList = t.data.toList := by rw [← HP.out, hl]; rfl
      have HSH := Lib.hid hsh
      have h00 : ¬ 0 < t.size := by omega
      clear hl hsh h0
      go_wp2
      go_ret3
      exact ⟨rfl, by (repeat (first | (with_reducible exact Below.refl _ _) | (with_reducible refine below_drewN ?_ _) | (with_reducible refine Below.drew ?_) | (with_reducible refine Below.alloc ?_ ?_ _; rotate_left; focus (first | (simp; done) | (simp; omega)))))⟩
    · obtain ⟨n, hn⟩ : ∃ n, t.size = n + 1 := ⟨t.size - 1, by omega⟩
      have hlt : n < t.size := by omega
      have hl : t.data.toList = t.data.toList.take n ++ [t[n]] := by rw [← take_snoc t n hlt, ← hn, take_all]
      have HL := Lib.hid hl
      have b1 : IntKind.i64.wrap ((t.size : Int) - 1) = (n : Int) := by rw [hn]; rw [show (((n + 1 : Nat) : Int) - 1) = (n : Int) by omega]; exact IntWalk.i64_in _ (by omega)
      have b2 : ((t.size : Int) - 1) = (n : Int) := by omega
      have h00 : 0 < t.size := by omega
      have HN := Lib.hid hn
      clear hl hn h0
      by_cases hc : t[n] = 48
      · have hc' : ((t[n].toNat : Int) == 48) = true := by rw [hc]; rfl
        have hfin : shortL (t.extract 0 n).data.toList = shortL fr.data.toList := by
          have e : shortL t.data.toList = shortL (t.data.toList.take n) := by
            have := congrArg shortL HL.out
            rw [hc] at this
            exact this.trans (short_zero _)
          rw [extract_take, toList_mk, ← e, HP.out]
        have HF := Lib.hid hfin
        clear hc hfin
        go_wp2
        exact ⟨⟨t.extract 0 n, rfl, by simp; omega, HF.out⟩, by show (t.extract 0 n).size < t.size; simp; omega⟩
      · have hc' : ((t[n].toNat : Int) == 48) = false := by rw [show ((48 : Int)) = (((48 : UInt8).toNat : Nat) : Int) from rfl, toNat_beq]; simpa using hc
        have hsh : shortL fr.data.toList = t.data.toList := by rw [← HP.out]; exact (congrArg shortL HL.out).trans ((short_keep _ _ hc).trans HL.out.symm)
        have HSH := Lib.hid hsh
        clear hc hsh b2
        go_wp2
        go_ret3
        exact ⟨rfl, by (repeat (first | (with_reducible exact Below.refl _ _) | (with_reducible refine below_drewN ?_ _) | (with_reducible refine Below.drew ?_) | (with_reducible refine Below.alloc ?_ ?_ _; rotate_left; focus (first | (simp; done) | (simp; omega)))))⟩
set_option maxHeartbeats 600000 in
theorem operand_v (b : Bool) (wh fr : ByteArray) (w : World) (hf : fr.size ≤ 1000000) :
    Calls Tryz.prog 46 #[.agg #[.bool b, .string wh, .string fr], .string ⟨#[118]⟩] w fun e w' => e = .returned (.tuple #[strv (decL fr.data.toList.length), strv [], .bool true]) ∧ Below w.heap.size w w' := by
  go_enter Tryz.func46, Tryz.ntmps46
  go_wp2
  go_loop [7] (fun v => ∃ t : ByteArray, v = .string t ∧ t.size ≤ 1000000 ∧ shortL t.data.toList = shortL fr.data.toList) (fun v => match v with | .string t => t.size | _ => 0)
  case atStart => exact ⟨fr, rfl, hf, rfl⟩
  case round =>
    obtain ⟨t, rfl, ht, hp⟩ := hrel
    have HP := Lib.hid hp
    clear hp
    by_cases h0 : t.size = 0
    · have hl : t.data.toList = [] := List.eq_nil_of_length_eq_zero (by rw [size_toList]; exact h0)
      have hsh : shortL fr.data.toList = t.data.toList := by rw [← HP.out, hl]; rfl
      have HSH := Lib.hid hsh
      have h00 : ¬ 0 < t.size := by omega
      clear hl hsh h0
      go_wp2_with fail
      refine (decimal_any fr.size _ (by omega)).mono ?_
      rintro e w1 ⟨rfl, rfl⟩
      go_wp2
      go_ret3
      exact ⟨by rw [size_toList]; rfl, by (repeat (first | (with_reducible exact Below.refl _ _) | (with_reducible refine below_drewN ?_ _) | (with_reducible refine Below.drew ?_) | (with_reducible refine Below.alloc ?_ ?_ _; rotate_left; focus (first | (simp; done) | (simp; omega)))))⟩
    · obtain ⟨n, hn⟩ : ∃ n, t.size = n + 1 := ⟨t.size - 1, by omega⟩
      have hlt : n < t.size := by omega
      have hl : t.data.toList = t.data.toList.take n ++ [t[n]] := by rw [← take_snoc t n hlt, ← hn, take_all]
      have HL := Lib.hid hl
      have b1 : IntKind.i64.wrap ((t.size : Int) - 1) = (n : Int) := by rw [hn]; rw [show (((n + 1 : Nat) : Int) - 1) = (n : Int) by omega]; exact IntWalk.i64_in _ (by omega)
      have b2 : ((t.size : Int) - 1) = (n : Int) := by omega
      have h00 : 0 < t.size := by omega
      have HN := Lib.hid hn
      clear hl hn h0
      by_cases hc : t[n] = 48
      · have hc' : ((t[n].toNat : Int) == 48) = true := by rw [hc]; rfl
        have hfin : shortL (t.extract 0 n).data.toList = shortL fr.data.toList := by
          have e : shortL t.data.toList = shortL (t.data.toList.take n) := by
            have := congrArg shortL HL.out
            rw [hc] at this
            exact this.trans (short_zero _)
          rw [extract_take, toList_mk, ← e, HP.out]
        have HF := Lib.hid hfin
        clear hc hfin
        go_wp2
        exact ⟨⟨t.extract 0 n, rfl, by simp; omega, HF.out⟩, by show (t.extract 0 n).size < t.size; simp; omega⟩
      · have hc' : ((t[n].toNat : Int) == 48) = false := by rw [show ((48 : Int)) = (((48 : UInt8).toNat : Nat) : Int) from rfl, toNat_beq]; simpa using hc
        have hsh : shortL fr.data.toList = t.data.toList := by rw [← HP.out]; exact (congrArg shortL HL.out).trans ((short_keep _ _ hc).trans HL.out.symm)
        have HSH := Lib.hid hsh
        clear hc hsh b2
        go_wp2_with fail
        refine (decimal_any fr.size _ (by omega)).mono ?_
        rintro e w1 ⟨rfl, rfl⟩
        go_wp2
        go_ret3
        exact ⟨by rw [size_toList]; rfl, by (repeat (first | (with_reducible exact Below.refl _ _) | (with_reducible refine below_drewN ?_ _) | (with_reducible refine Below.drew ?_) | (with_reducible refine Below.alloc ?_ ?_ _; rotate_left; focus (first | (simp; done) | (simp; omega)))))⟩
set_option maxHeartbeats 600000 in
theorem operand_w (b : Bool) (wh fr : ByteArray) (w : World) (hf : fr.size ≤ 1000000) :
    Calls Tryz.prog 46 #[.agg #[.bool b, .string wh, .string fr], .string ⟨#[119]⟩] w fun e w' => e = .returned (.tuple #[strv (decL (shortL fr.data.toList).length), strv [], .bool true]) ∧ Below w.heap.size w w' := by
  go_enter Tryz.func46, Tryz.ntmps46
  go_wp2
  go_loop [7] (fun v => ∃ t : ByteArray, v = .string t ∧ t.size ≤ 1000000 ∧ shortL t.data.toList = shortL fr.data.toList) (fun v => match v with | .string t => t.size | _ => 0)
  case atStart => exact ⟨fr, rfl, hf, rfl⟩
  case round =>
    obtain ⟨t, rfl, ht, hp⟩ := hrel
    have HP := Lib.hid hp
    clear hp
    by_cases h0 : t.size = 0
    · have hl : t.data.toList = [] := List.eq_nil_of_length_eq_zero (by rw [size_toList]; exact h0)
      have hsh : shortL fr.data.toList = t.data.toList := by rw [← HP.out, hl]; rfl
      have HSH := Lib.hid hsh
      have h00 : ¬ 0 < t.size := by omega
      clear hl hsh h0
      go_wp2_with fail
      refine (decimal_any t.size _ (by omega)).mono ?_
      rintro e w1 ⟨rfl, rfl⟩
      go_wp2
      go_ret3
      exact ⟨by rw [HSH.out, size_toList]; rfl, by (repeat (first | (with_reducible exact Below.refl _ _) | (with_reducible refine below_drewN ?_ _) | (with_reducible refine Below.drew ?_) | (with_reducible refine Below.alloc ?_ ?_ _; rotate_left; focus (first | (simp; done) | (simp; omega)))))⟩
    · obtain ⟨n, hn⟩ : ∃ n, t.size = n + 1 := ⟨t.size - 1, by omega⟩
      have hlt : n < t.size := by omega
      have hl : t.data.toList = t.data.toList.take n ++ [t[n]] := by rw [← take_snoc t n hlt, ← hn, take_all]
      have HL := Lib.hid hl
      have b1 : IntKind.i64.wrap ((t.size : Int) - 1) = (n : Int) := by rw [hn]; rw [show (((n + 1 : Nat) : Int) - 1) = (n : Int) by omega]; exact IntWalk.i64_in _ (by omega)
      have b2 : ((t.size : Int) - 1) = (n : Int) := by omega
      have h00 : 0 < t.size := by omega
      have HN := Lib.hid hn
      clear hl hn h0
      by_cases hc : t[n] = 48
      · have hc' : ((t[n].toNat : Int) == 48) = true := by rw [hc]; rfl
        have hfin : shortL (t.extract 0 n).data.toList = shortL fr.data.toList := by
          have e : shortL t.data.toList = shortL (t.data.toList.take n) := by
            have := congrArg shortL HL.out
            rw [hc] at this
            exact this.trans (short_zero _)
          rw [extract_take, toList_mk, ← e, HP.out]
        have HF := Lib.hid hfin
        clear hc hfin
        go_wp2
        exact ⟨⟨t.extract 0 n, rfl, by simp; omega, HF.out⟩, by show (t.extract 0 n).size < t.size; simp; omega⟩
      · have hc' : ((t[n].toNat : Int) == 48) = false := by rw [show ((48 : Int)) = (((48 : UInt8).toNat : Nat) : Int) from rfl, toNat_beq]; simpa using hc
        have hsh : shortL fr.data.toList = t.data.toList := by rw [← HP.out]; exact (congrArg shortL HL.out).trans ((short_keep _ _ hc).trans HL.out.symm)
        have HSH := Lib.hid hsh
        clear hc hsh b2
        go_wp2_with fail
        refine (decimal_any t.size _ (by omega)).mono ?_
        rintro e w1 ⟨rfl, rfl⟩
        go_wp2
        go_ret3
        exact ⟨by rw [HSH.out, size_toList]; rfl, by (repeat (first | (with_reducible exact Below.refl _ _) | (with_reducible refine below_drewN ?_ _) | (with_reducible refine Below.drew ?_) | (with_reducible refine Below.alloc ?_ ?_ _; rotate_left; focus (first | (simp; done) | (simp; omega)))))⟩
set_option maxHeartbeats 600000 in
theorem operand_f (b : Bool) (wh fr : ByteArray) (w : World) (hf : fr.size ≤ 1000000) :
    Calls Tryz.prog 46 #[.agg #[.bool b, .string wh, .string fr], .string ⟨#[102]⟩] w fun e w' => e = .returned (.tuple #[strv (plainL fr.data.toList), strv [], .bool true]) ∧ Below w.heap.size w w' := by
  go_enter Tryz.func46, Tryz.ntmps46
  go_wp2
  go_loop [7] (fun v => ∃ t : ByteArray, v = .string t ∧ t.size ≤ 1000000 ∧ shortL t.data.toList = shortL fr.data.toList) (fun v => match v with | .string t => t.size | _ => 0)
  case atStart => exact ⟨fr, rfl, hf, rfl⟩
  case round =>
    obtain ⟨t, rfl, ht, hp⟩ := hrel
    have HP := Lib.hid hp
    clear hp
    by_cases h0 : t.size = 0
    · have hl : t.data.toList = [] := List.eq_nil_of_length_eq_zero (by rw [size_toList]; exact h0)
      have hsh : shortL fr.data.toList = t.data.toList := by rw [← HP.out, hl]; rfl
      have HSH := Lib.hid hsh
      have h00 : ¬ 0 < t.size := by omega
      clear hl hsh h0
      go_wp2_with fail
      refine (plain_any fr _ hf).mono ?_
      rintro e w1 ⟨rfl, rfl⟩
      go_wp2
      go_ret3
      exact ⟨rfl, by (repeat (first | (with_reducible exact Below.refl _ _) | (with_reducible refine below_drewN ?_ _) | (with_reducible refine Below.drew ?_) | (with_reducible refine Below.alloc ?_ ?_ _; rotate_left; focus (first | (simp; done) | (simp; omega)))))⟩
    · obtain ⟨n, hn⟩ : ∃ n, t.size = n + 1 := ⟨t.size - 1, by omega⟩
      have hlt : n < t.size := by omega
      have hl : t.data.toList = t.data.toList.take n ++ [t[n]] := by rw [← take_snoc t n hlt, ← hn, take_all]
      have HL := Lib.hid hl
      have b1 : IntKind.i64.wrap ((t.size : Int) - 1) = (n : Int) := by rw [hn]; rw [show (((n + 1 : Nat) : Int) - 1) = (n : Int) by omega]; exact IntWalk.i64_in _ (by omega)
      have b2 : ((t.size : Int) - 1) = (n : Int) := by omega
      have h00 : 0 < t.size := by omega
      have HN := Lib.hid hn
      clear hl hn h0
      by_cases hc : t[n] = 48
      · have hc' : ((t[n].toNat : Int) == 48) = true := by rw [hc]; rfl
        have hfin : shortL (t.extract 0 n).data.toList = shortL fr.data.toList := by
          have e : shortL t.data.toList = shortL (t.data.toList.take n) := by
            have := congrArg shortL HL.out
            rw [hc] at this
            exact this.trans (short_zero _)
          rw [extract_take, toList_mk, ← e, HP.out]
        have HF := Lib.hid hfin
        clear hc hfin
        go_wp2
        exact ⟨⟨t.extract 0 n, rfl, by simp; omega, HF.out⟩, by show (t.extract 0 n).size < t.size; simp; omega⟩
      · have hc' : ((t[n].toNat : Int) == 48) = false := by rw [show ((48 : Int)) = (((48 : UInt8).toNat : Nat) : Int) from rfl, toNat_beq]; simpa using hc
        have hsh : shortL fr.data.toList = t.data.toList := by rw [← HP.out]; exact (congrArg shortL HL.out).trans ((short_keep _ _ hc).trans HL.out.symm)
        have HSH := Lib.hid hsh
        clear hc hsh b2
        go_wp2_with fail
        refine (plain_any fr _ hf).mono ?_
        rintro e w1 ⟨rfl, rfl⟩
        go_wp2
        go_ret3
        exact ⟨rfl, by (repeat (first | (with_reducible exact Below.refl _ _) | (with_reducible refine below_drewN ?_ _) | (with_reducible refine Below.drew ?_) | (with_reducible refine Below.alloc ?_ ?_ _; rotate_left; focus (first | (simp; done) | (simp; omega)))))⟩
set_option maxHeartbeats 600000 in
theorem operand_t (b : Bool) (wh fr : ByteArray) (w : World) (hf : fr.size ≤ 1000000) :
    Calls Tryz.prog 46 #[.agg #[.bool b, .string wh, .string fr], .string ⟨#[116]⟩] w fun e w' => e = .returned (.tuple #[strv (plainL (shortL fr.data.toList)), strv [], .bool true]) ∧ Below w.heap.size w w' := by
  go_enter Tryz.func46, Tryz.ntmps46
  go_wp2
  go_loop [7] (fun v => ∃ t : ByteArray, v = .string t ∧ t.size ≤ 1000000 ∧ shortL t.data.toList = shortL fr.data.toList) (fun v => match v with | .string t => t.size | _ => 0)
  case atStart => exact ⟨fr, rfl, hf, rfl⟩
  case round =>
    obtain ⟨t, rfl, ht, hp⟩ := hrel
    have HP := Lib.hid hp
    clear hp
    by_cases h0 : t.size = 0
    · have hl : t.data.toList = [] := List.eq_nil_of_length_eq_zero (by rw [size_toList]; exact h0)
      have hsh : shortL fr.data.toList = t.data.toList := by rw [← HP.out, hl]; rfl
      have HSH := Lib.hid hsh
      have h00 : ¬ 0 < t.size := by omega
      clear hl hsh h0
      go_wp2_with fail
      refine (plain_any t _ ht).mono ?_
      rintro e w1 ⟨rfl, rfl⟩
      go_wp2
      go_ret3
      exact ⟨by rw [HSH.out]; rfl, by (repeat (first | (with_reducible exact Below.refl _ _) | (with_reducible refine below_drewN ?_ _) | (with_reducible refine Below.drew ?_) | (with_reducible refine Below.alloc ?_ ?_ _; rotate_left; focus (first | (simp; done) | (simp; omega)))))⟩
    · obtain ⟨n, hn⟩ : ∃ n, t.size = n + 1 := ⟨t.size - 1, by omega⟩
      have hlt : n < t.size := by omega
      have hl : t.data.toList = t.data.toList.take n ++ [t[n]] := by rw [← take_snoc t n hlt, ← hn, take_all]
      have HL := Lib.hid hl
      have b1 : IntKind.i64.wrap ((t.size : Int) - 1) = (n : Int) := by rw [hn]; rw [show (((n + 1 : Nat) : Int) - 1) = (n : Int) by omega]; exact IntWalk.i64_in _ (by omega)
      have b2 : ((t.size : Int) - 1) = (n : Int) := by omega
      have h00 : 0 < t.size := by omega
      have HN := Lib.hid hn
      clear hl hn h0
      by_cases hc : t[n] = 48
      · have hc' : ((t[n].toNat : Int) == 48) = true := by rw [hc]; rfl
        have hfin : shortL (t.extract 0 n).data.toList = shortL fr.data.toList := by
          have e : shortL t.data.toList = shortL (t.data.toList.take n) := by
            have := congrArg shortL HL.out
            rw [hc] at this
            exact this.trans (short_zero _)
          rw [extract_take, toList_mk, ← e, HP.out]
        have HF := Lib.hid hfin
        clear hc hfin
        go_wp2
        exact ⟨⟨t.extract 0 n, rfl, by simp; omega, HF.out⟩, by show (t.extract 0 n).size < t.size; simp; omega⟩
      · have hc' : ((t[n].toNat : Int) == 48) = false := by rw [show ((48 : Int)) = (((48 : UInt8).toNat : Nat) : Int) from rfl, toNat_beq]; simpa using hc
        have hsh : shortL fr.data.toList = t.data.toList := by rw [← HP.out]; exact (congrArg shortL HL.out).trans ((short_keep _ _ hc).trans HL.out.symm)
        have HSH := Lib.hid hsh
        clear hc hsh b2
        go_wp2_with fail
        refine (plain_any t _ ht).mono ?_
        rintro e w1 ⟨rfl, rfl⟩
        go_wp2
        go_ret3
        exact ⟨by rw [HSH.out]; rfl, by (repeat (first | (with_reducible exact Below.refl _ _) | (with_reducible refine below_drewN ?_ _) | (with_reducible refine Below.drew ?_) | (with_reducible refine Below.alloc ?_ ?_ _; rotate_left; focus (first | (simp; done) | (simp; omega)))))⟩
end Go.Proofs.YtkhdbolnhcfgkaaGreatDoor

/- The document's rules: operands, all of them. -/
namespace Go.Proofs.YtkhdbolnhcfgkaaGreatDoor
open Go Go.RowKit
set_option maxRecDepth 10000

set_option maxHeartbeats 1000000 in
theorem operand_none (b : Bool) (wh fr c : ByteArray) (w : World) (hf : fr.size ≤ 1000000) (h1 : ¬ c.data.toList = [110]) (h2 : ¬ c.data.toList = [105]) (h3 : ¬ c.data.toList = [118]) (h4 : ¬ c.data.toList = [119]) (h5 : ¬ c.data.toList = [102]) (h6 : ¬ c.data.toList = [116]) :
    Calls Tryz.prog 46 #[.agg #[.bool b, .string wh, .string fr], .string c] w fun e w' => e = .returned (.tuple #[strv [], strv [], .bool false]) ∧ Below w.heap.size w w' := by
  have q1 : (c.toList == [110]) = false := by rw [toList_at]; simpa using h1
  have q2 : (c.toList == [105]) = false := by rw [toList_at]; simpa using h2
  have q3 : (c.toList == [118]) = false := by rw [toList_at]; simpa using h3
  have q4 : (c.toList == [119]) = false := by rw [toList_at]; simpa using h4
  have q5 : (c.toList == [102]) = false := by rw [toList_at]; simpa using h5
  have q6 : (c.toList == [116]) = false := by rw [toList_at]; simpa using h6
  clear h1 h2 h3 h4 h5 h6
  go_enter Tryz.func46, Tryz.ntmps46
  go_wp2
  go_loop [7] (fun v => ∃ t : ByteArray, v = .string t ∧ t.size ≤ 1000000) (fun v => match v with | .string t => t.size | _ => 0)
  case atStart => exact ⟨fr, rfl, hf⟩
  case round =>
    obtain ⟨t, rfl, ht⟩ := hrel
    by_cases h0 : t.size = 0
    · have h00 : ¬ 0 < t.size := by omega
      clear h0
      go_wp2
      go_ret3
      exact ⟨rfl, (Below.refl _ _).alloc (Nat.le_refl _) _⟩
    · obtain ⟨n, hn⟩ : ∃ n, t.size = n + 1 := ⟨t.size - 1, by omega⟩
      have hlt : n < t.size := by omega
      have b1 : IntKind.i64.wrap ((t.size : Int) - 1) = (n : Int) := by rw [hn]; rw [show (((n + 1 : Nat) : Int) - 1) = (n : Int) by omega]; exact IntWalk.i64_in _ (by omega)
      have b2 : ((t.size : Int) - 1) = (n : Int) := by omega
      have h00 : 0 < t.size := by omega
      clear hn h0
      by_cases hc : t[n] = 48
      · have hc' : ((t[n].toNat : Int) == 48) = true := by rw [hc]; rfl
        clear hc
        go_wp2
        exact ⟨⟨t.extract 0 n, rfl, by simp; omega⟩, by show (t.extract 0 n).size < t.size; simp; omega⟩
      · have hc' : ((t[n].toNat : Int) == 48) = false := by rw [show ((48 : Int)) = (((48 : UInt8).toNat : Nat) : Int) from rfl, toNat_beq]; simpa using hc
        clear hc b2
        go_wp2
        go_ret3
        exact ⟨rfl, (Below.refl _ _).alloc (Nat.le_refl _) _⟩

theorem lit_of {c : ByteArray} {l : List UInt8} (h : c.data.toList = l) : c = ⟨l.toArray⟩ := by rw [← h, mk_toList]

theorem operand_any (b : Bool) (wh fr c : ByteArray) (w : World) (hf : fr.size ≤ 1000000) :
    Calls Tryz.prog 46 #[.agg #[.bool b, .string wh, .string fr], .string c] w (OperandPost (operandL wh.data.toList fr.data.toList c.data.toList) w) := by
  have sv : ∀ s : ByteArray, strv s.data.toList = .string s := fun s => congrArg Value.string (mk_toList s)
  by_cases h1 : c.data.toList = [110]
  · rw [lit_of h1]
    refine (operand_n b wh fr w hf).mono ?_
    rintro e w1 ⟨rfl, hb⟩
    refine ⟨?_, hb⟩
    show _ = Ending.returned (.tuple #[strv wh.data.toList, strv fr.data.toList, .bool true])
    rw [sv, sv]
  by_cases h2 : c.data.toList = [105]
  · rw [lit_of h2]
    refine (operand_i b wh fr w hf).mono ?_
    rintro e w1 ⟨rfl, hb⟩
    refine ⟨?_, hb⟩
    show _ = Ending.returned (.tuple #[strv wh.data.toList, strv [], .bool true])
    rw [sv]
  by_cases h3 : c.data.toList = [118]
  · rw [lit_of h3]
    exact (operand_v b wh fr w hf).mono fun e w1 h => ⟨h.1, h.2⟩
  by_cases h4 : c.data.toList = [119]
  · rw [lit_of h4]
    exact (operand_w b wh fr w hf).mono fun e w1 h => ⟨h.1, h.2⟩
  by_cases h5 : c.data.toList = [102]
  · rw [lit_of h5]
    exact (operand_f b wh fr w hf).mono fun e w1 h => ⟨h.1, h.2⟩
  by_cases h6 : c.data.toList = [116]
  · rw [lit_of h6]
    exact (operand_t b wh fr w hf).mono fun e w1 h => ⟨h.1, h.2⟩
  refine (operand_none b wh fr c w hf h1 h2 h3 h4 h5 h6).mono ?_
  rintro e w1 ⟨rfl, hb⟩
  refine ⟨?_, hb⟩
  unfold operandL
  rw [if_neg h1, if_neg h2, if_neg h3, if_neg h4, if_neg h5, if_neg h6]
end Go.Proofs.YtkhdbolnhcfgkaaGreatDoor

/- The document's rules: how a relation is put. -/
namespace Go.Proofs.YtkhdbolnhcfgkaaGreatDoor
open Go Go.RowKit
set_option maxRecDepth 10000

/-- is it denied; are broken numbers spoken of; must one number follow; how many words say so (0: none do) -/
def mannerL (a b : List UInt8) : Bool × Bool × Bool × Nat :=
  if a = [61] ∨ a = [105, 110] then (false, false, false, 1) else if a = [33, 61] then (true, false, false, 1) else if a = [119, 105, 116, 104, 105, 110] then (false, true, false, 1)
  else if a = [105, 115] ∧ b = [110, 111, 116] then (true, false, true, 2) else if a = [105, 115] then (false, false, true, 1)
  else if a = [110, 111, 116] ∧ b = [105, 110] then (true, false, false, 2) else if a = [110, 111, 116] ∧ b = [119, 105, 116, 104, 105, 110] then (true, true, false, 2) else (false, false, false, 0)

set_option maxHeartbeats 600000 in
theorem manner_two_eq_any (x : Addr) (n cap : Nat) (b : List UInt8) (w : World) (hn : 2 ≤ n) (hn2 : n ≤ 1000000) (h0 : w.cell? x = some (strv [61])) (h1 : w.cell? ⟨x.block, x.off + 1, none⟩ = some (strv b)) :
    Calls Tryz.prog 51 #[.slice (some x) n cap] w fun e w' => e = .returned (.tuple #[.bool (mannerL [61] b).1, .bool (mannerL [61] b).2.1, .bool (mannerL [61] b).2.2.1, .int .i64 (mannerL [61] b).2.2.2]) ∧ w = w' := by
  have hf : mannerL [61] b = (false, false, false, 1) := by simp [mannerL]
  have hg : decide ((1 : Int) < (n : Int)) = true := by simp; omega
  have p1 : (0 : Int) < (n : Int) := by omega
  have p2 : (1 : Int) < (n : Int) := by omega
  have HF := Lib.hid hf
  clear hf
  go_enter Tryz.func51, Tryz.ntmps51
  go_wp2
  refine bodyPost_ret (v := .tuple #[.bool false, .bool false, .bool false, .int .i64 1]) ?_ rfl ⟨by rw [HF.out]; rfl, rfl⟩
  simp [results, Tryz.results51, go_sem]

set_option maxHeartbeats 600000 in
theorem manner_two_in_any (x : Addr) (n cap : Nat) (b : List UInt8) (w : World) (hn : 2 ≤ n) (hn2 : n ≤ 1000000) (h0 : w.cell? x = some (strv [105, 110])) (h1 : w.cell? ⟨x.block, x.off + 1, none⟩ = some (strv b)) :
    Calls Tryz.prog 51 #[.slice (some x) n cap] w fun e w' => e = .returned (.tuple #[.bool (mannerL [105, 110] b).1, .bool (mannerL [105, 110] b).2.1, .bool (mannerL [105, 110] b).2.2.1, .int .i64 (mannerL [105, 110] b).2.2.2]) ∧ w = w' := by
  have hf : mannerL [105, 110] b = (false, false, false, 1) := by simp [mannerL]
  have hg : decide ((1 : Int) < (n : Int)) = true := by simp; omega
  have p1 : (0 : Int) < (n : Int) := by omega
  have p2 : (1 : Int) < (n : Int) := by omega
  have HF := Lib.hid hf
  clear hf
  go_enter Tryz.func51, Tryz.ntmps51
  go_wp2
  refine bodyPost_ret (v := .tuple #[.bool false, .bool false, .bool false, .int .i64 1]) ?_ rfl ⟨by rw [HF.out]; rfl, rfl⟩
  simp [results, Tryz.results51, go_sem]

set_option maxHeartbeats 600000 in
theorem manner_two_ne_any (x : Addr) (n cap : Nat) (b : List UInt8) (w : World) (hn : 2 ≤ n) (hn2 : n ≤ 1000000) (h0 : w.cell? x = some (strv [33, 61])) (h1 : w.cell? ⟨x.block, x.off + 1, none⟩ = some (strv b)) :
    Calls Tryz.prog 51 #[.slice (some x) n cap] w fun e w' => e = .returned (.tuple #[.bool (mannerL [33, 61] b).1, .bool (mannerL [33, 61] b).2.1, .bool (mannerL [33, 61] b).2.2.1, .int .i64 (mannerL [33, 61] b).2.2.2]) ∧ w = w' := by
  have hf : mannerL [33, 61] b = (true, false, false, 1) := by simp [mannerL]
  have hg : decide ((1 : Int) < (n : Int)) = true := by simp; omega
  have p1 : (0 : Int) < (n : Int) := by omega
  have p2 : (1 : Int) < (n : Int) := by omega
  have HF := Lib.hid hf
  clear hf
  go_enter Tryz.func51, Tryz.ntmps51
  go_wp2
  refine bodyPost_ret (v := .tuple #[.bool true, .bool false, .bool false, .int .i64 1]) ?_ rfl ⟨by rw [HF.out]; rfl, rfl⟩
  simp [results, Tryz.results51, go_sem]

set_option maxHeartbeats 600000 in
theorem manner_two_within_any (x : Addr) (n cap : Nat) (b : List UInt8) (w : World) (hn : 2 ≤ n) (hn2 : n ≤ 1000000) (h0 : w.cell? x = some (strv [119, 105, 116, 104, 105, 110])) (h1 : w.cell? ⟨x.block, x.off + 1, none⟩ = some (strv b)) :
    Calls Tryz.prog 51 #[.slice (some x) n cap] w fun e w' => e = .returned (.tuple #[.bool (mannerL [119, 105, 116, 104, 105, 110] b).1, .bool (mannerL [119, 105, 116, 104, 105, 110] b).2.1, .bool (mannerL [119, 105, 116, 104, 105, 110] b).2.2.1, .int .i64 (mannerL [119, 105, 116, 104, 105, 110] b).2.2.2]) ∧ w = w' := by
  have hf : mannerL [119, 105, 116, 104, 105, 110] b = (false, true, false, 1) := by simp [mannerL]
  have hg : decide ((1 : Int) < (n : Int)) = true := by simp; omega
  have p1 : (0 : Int) < (n : Int) := by omega
  have p2 : (1 : Int) < (n : Int) := by omega
  have HF := Lib.hid hf
  clear hf
  go_enter Tryz.func51, Tryz.ntmps51
  go_wp2
  refine bodyPost_ret (v := .tuple #[.bool false, .bool true, .bool false, .int .i64 1]) ?_ rfl ⟨by rw [HF.out]; rfl, rfl⟩
  simp [results, Tryz.results51, go_sem]

set_option maxHeartbeats 600000 in
theorem manner_two_is_not (x : Addr) (n cap : Nat) (w : World) (hn : 2 ≤ n) (hn2 : n ≤ 1000000) (h0 : w.cell? x = some (strv [105, 115])) (h1 : w.cell? ⟨x.block, x.off + 1, none⟩ = some (strv [110, 111, 116])) :
    Calls Tryz.prog 51 #[.slice (some x) n cap] w fun e w' => e = .returned (.tuple #[.bool (mannerL [105, 115] [110, 111, 116]).1, .bool (mannerL [105, 115] [110, 111, 116]).2.1, .bool (mannerL [105, 115] [110, 111, 116]).2.2.1, .int .i64 (mannerL [105, 115] [110, 111, 116]).2.2.2]) ∧ w = w' := by
  have hf : mannerL [105, 115] [110, 111, 116] = (true, false, true, 2) := by simp [mannerL]
  have hg : decide ((1 : Int) < (n : Int)) = true := by simp; omega
  have p1 : (0 : Int) < (n : Int) := by omega
  have p2 : (1 : Int) < (n : Int) := by omega
  have HF := Lib.hid hf
  clear hf
  go_enter Tryz.func51, Tryz.ntmps51
  go_wp2
  refine bodyPost_ret (v := .tuple #[.bool true, .bool false, .bool true, .int .i64 2]) ?_ rfl ⟨by rw [HF.out]; rfl, rfl⟩
  simp [results, Tryz.results51, go_sem]

set_option maxHeartbeats 600000 in
theorem manner_two_is_else (x : Addr) (n cap : Nat) (b : List UInt8) (w : World) (hn : 2 ≤ n) (hn2 : n ≤ 1000000) (h0 : w.cell? x = some (strv [105, 115])) (h1 : w.cell? ⟨x.block, x.off + 1, none⟩ = some (strv b)) (mnot : ¬ b = [110, 111, 116]) :
    Calls Tryz.prog 51 #[.slice (some x) n cap] w fun e w' => e = .returned (.tuple #[.bool (mannerL [105, 115] b).1, .bool (mannerL [105, 115] b).2.1, .bool (mannerL [105, 115] b).2.2.1, .int .i64 (mannerL [105, 115] b).2.2.2]) ∧ w = w' := by
  have hf : mannerL [105, 115] b = (false, false, true, 1) := by simp [mannerL, mnot]
  have rnot : (b == [110, 111, 116]) = false := by simpa using mnot
  clear mnot
  have hg : decide ((1 : Int) < (n : Int)) = true := by simp; omega
  have p1 : (0 : Int) < (n : Int) := by omega
  have p2 : (1 : Int) < (n : Int) := by omega
  have HF := Lib.hid hf
  clear hf
  go_enter Tryz.func51, Tryz.ntmps51
  go_wp2
  refine bodyPost_ret (v := .tuple #[.bool false, .bool false, .bool true, .int .i64 1]) ?_ rfl ⟨by rw [HF.out]; rfl, rfl⟩
  simp [results, Tryz.results51, go_sem]

set_option maxHeartbeats 600000 in
theorem manner_two_not_in (x : Addr) (n cap : Nat) (w : World) (hn : 2 ≤ n) (hn2 : n ≤ 1000000) (h0 : w.cell? x = some (strv [110, 111, 116])) (h1 : w.cell? ⟨x.block, x.off + 1, none⟩ = some (strv [105, 110])) :
    Calls Tryz.prog 51 #[.slice (some x) n cap] w fun e w' => e = .returned (.tuple #[.bool (mannerL [110, 111, 116] [105, 110]).1, .bool (mannerL [110, 111, 116] [105, 110]).2.1, .bool (mannerL [110, 111, 116] [105, 110]).2.2.1, .int .i64 (mannerL [110, 111, 116] [105, 110]).2.2.2]) ∧ w = w' := by
  have hf : mannerL [110, 111, 116] [105, 110] = (true, false, false, 2) := by simp [mannerL]
  have hg : decide ((1 : Int) < (n : Int)) = true := by simp; omega
  have p1 : (0 : Int) < (n : Int) := by omega
  have p2 : (1 : Int) < (n : Int) := by omega
  have HF := Lib.hid hf
  clear hf
  go_enter Tryz.func51, Tryz.ntmps51
  go_wp2
  refine bodyPost_ret (v := .tuple #[.bool true, .bool false, .bool false, .int .i64 2]) ?_ rfl ⟨by rw [HF.out]; rfl, rfl⟩
  simp [results, Tryz.results51, go_sem]

set_option maxHeartbeats 600000 in
theorem manner_two_not_within (x : Addr) (n cap : Nat) (w : World) (hn : 2 ≤ n) (hn2 : n ≤ 1000000) (h0 : w.cell? x = some (strv [110, 111, 116])) (h1 : w.cell? ⟨x.block, x.off + 1, none⟩ = some (strv [119, 105, 116, 104, 105, 110])) :
    Calls Tryz.prog 51 #[.slice (some x) n cap] w fun e w' => e = .returned (.tuple #[.bool (mannerL [110, 111, 116] [119, 105, 116, 104, 105, 110]).1, .bool (mannerL [110, 111, 116] [119, 105, 116, 104, 105, 110]).2.1, .bool (mannerL [110, 111, 116] [119, 105, 116, 104, 105, 110]).2.2.1, .int .i64 (mannerL [110, 111, 116] [119, 105, 116, 104, 105, 110]).2.2.2]) ∧ w = w' := by
  have hf : mannerL [110, 111, 116] [119, 105, 116, 104, 105, 110] = (true, true, false, 2) := by simp [mannerL]
  have hg : decide ((1 : Int) < (n : Int)) = true := by simp; omega
  have p1 : (0 : Int) < (n : Int) := by omega
  have p2 : (1 : Int) < (n : Int) := by omega
  have HF := Lib.hid hf
  clear hf
  go_enter Tryz.func51, Tryz.ntmps51
  go_wp2
  refine bodyPost_ret (v := .tuple #[.bool true, .bool true, .bool false, .int .i64 2]) ?_ rfl ⟨by rw [HF.out]; rfl, rfl⟩
  simp [results, Tryz.results51, go_sem]

set_option maxHeartbeats 600000 in
theorem manner_two_not_else (x : Addr) (n cap : Nat) (b : List UInt8) (w : World) (hn : 2 ≤ n) (hn2 : n ≤ 1000000) (h0 : w.cell? x = some (strv [110, 111, 116])) (h1 : w.cell? ⟨x.block, x.off + 1, none⟩ = some (strv b)) (min : ¬ b = [105, 110]) (mwithin : ¬ b = [119, 105, 116, 104, 105, 110]) :
    Calls Tryz.prog 51 #[.slice (some x) n cap] w fun e w' => e = .returned (.tuple #[.bool (mannerL [110, 111, 116] b).1, .bool (mannerL [110, 111, 116] b).2.1, .bool (mannerL [110, 111, 116] b).2.2.1, .int .i64 (mannerL [110, 111, 116] b).2.2.2]) ∧ w = w' := by
  have hf : mannerL [110, 111, 116] b = (false, false, false, 0) := by simp [mannerL, min, mwithin]
  have rin : (b == [105, 110]) = false := by simpa using min
  have rwithin : (b == [119, 105, 116, 104, 105, 110]) = false := by simpa using mwithin
  clear min mwithin
  have hg : decide ((1 : Int) < (n : Int)) = true := by simp; omega
  have p1 : (0 : Int) < (n : Int) := by omega
  have p2 : (1 : Int) < (n : Int) := by omega
  have HF := Lib.hid hf
  clear hf
  go_enter Tryz.func51, Tryz.ntmps51
  go_wp2
  refine bodyPost_ret (v := .tuple #[.bool false, .bool false, .bool false, .int .i64 0]) ?_ rfl ⟨by rw [HF.out]; rfl, rfl⟩
  simp [results, Tryz.results51, go_sem]

set_option maxHeartbeats 600000 in
theorem manner_two_other_any (x : Addr) (n cap : Nat) (a : List UInt8) (b : List UInt8) (w : World) (hn : 2 ≤ n) (hn2 : n ≤ 1000000) (h0 : w.cell? x = some (strv a)) (h1 : w.cell? ⟨x.block, x.off + 1, none⟩ = some (strv b)) (neq : ¬ a = [61]) (nin : ¬ a = [105, 110]) (nne : ¬ a = [33, 61]) (nwithin : ¬ a = [119, 105, 116, 104, 105, 110]) (nis : ¬ a = [105, 115]) (nnot : ¬ a = [110, 111, 116]) :
    Calls Tryz.prog 51 #[.slice (some x) n cap] w fun e w' => e = .returned (.tuple #[.bool (mannerL a b).1, .bool (mannerL a b).2.1, .bool (mannerL a b).2.2.1, .int .i64 (mannerL a b).2.2.2]) ∧ w = w' := by
  have hf : mannerL a b = (false, false, false, 0) := by simp [mannerL, neq, nin, nne, nwithin, nis, nnot]
  have qeq : (a == [61]) = false := by simpa using neq
  have qin : (a == [105, 110]) = false := by simpa using nin
  have qne : (a == [33, 61]) = false := by simpa using nne
  have qwithin : (a == [119, 105, 116, 104, 105, 110]) = false := by simpa using nwithin
  have qis : (a == [105, 115]) = false := by simpa using nis
  have qnot : (a == [110, 111, 116]) = false := by simpa using nnot
  clear neq nin nne nwithin nis nnot
  have hg : decide ((1 : Int) < (n : Int)) = true := by simp; omega
  have p1 : (0 : Int) < (n : Int) := by omega
  have p2 : (1 : Int) < (n : Int) := by omega
  have HF := Lib.hid hf
  clear hf
  go_enter Tryz.func51, Tryz.ntmps51
  go_wp2
  refine bodyPost_ret (v := .tuple #[.bool false, .bool false, .bool false, .int .i64 0]) ?_ rfl ⟨by rw [HF.out]; rfl, rfl⟩
  simp [results, Tryz.results51, go_sem]

set_option maxHeartbeats 600000 in
theorem manner_one_eq_any (x : Addr) (n cap : Nat) (w : World) (hn : n = 1) (h0 : w.cell? x = some (strv [61])) :
    Calls Tryz.prog 51 #[.slice (some x) n cap] w fun e w' => e = .returned (.tuple #[.bool (mannerL [61] []).1, .bool (mannerL [61] []).2.1, .bool (mannerL [61] []).2.2.1, .int .i64 (mannerL [61] []).2.2.2]) ∧ w = w' := by
  have hf : mannerL [61] [] = (false, false, false, 1) := by simp [mannerL]
  subst hn
  have HF := Lib.hid hf
  clear hf
  go_enter Tryz.func51, Tryz.ntmps51
  go_wp2
  refine bodyPost_ret (v := .tuple #[.bool false, .bool false, .bool false, .int .i64 1]) ?_ rfl ⟨by rw [HF.out]; rfl, rfl⟩
  simp [results, Tryz.results51, go_sem]

set_option maxHeartbeats 600000 in
theorem manner_one_in_any (x : Addr) (n cap : Nat) (w : World) (hn : n = 1) (h0 : w.cell? x = some (strv [105, 110])) :
    Calls Tryz.prog 51 #[.slice (some x) n cap] w fun e w' => e = .returned (.tuple #[.bool (mannerL [105, 110] []).1, .bool (mannerL [105, 110] []).2.1, .bool (mannerL [105, 110] []).2.2.1, .int .i64 (mannerL [105, 110] []).2.2.2]) ∧ w = w' := by
  have hf : mannerL [105, 110] [] = (false, false, false, 1) := by simp [mannerL]
  subst hn
  have HF := Lib.hid hf
  clear hf
  go_enter Tryz.func51, Tryz.ntmps51
  go_wp2
  refine bodyPost_ret (v := .tuple #[.bool false, .bool false, .bool false, .int .i64 1]) ?_ rfl ⟨by rw [HF.out]; rfl, rfl⟩
  simp [results, Tryz.results51, go_sem]

set_option maxHeartbeats 600000 in
theorem manner_one_ne_any (x : Addr) (n cap : Nat) (w : World) (hn : n = 1) (h0 : w.cell? x = some (strv [33, 61])) :
    Calls Tryz.prog 51 #[.slice (some x) n cap] w fun e w' => e = .returned (.tuple #[.bool (mannerL [33, 61] []).1, .bool (mannerL [33, 61] []).2.1, .bool (mannerL [33, 61] []).2.2.1, .int .i64 (mannerL [33, 61] []).2.2.2]) ∧ w = w' := by
  have hf : mannerL [33, 61] [] = (true, false, false, 1) := by simp [mannerL]
  subst hn
  have HF := Lib.hid hf
  clear hf
  go_enter Tryz.func51, Tryz.ntmps51
  go_wp2
  refine bodyPost_ret (v := .tuple #[.bool true, .bool false, .bool false, .int .i64 1]) ?_ rfl ⟨by rw [HF.out]; rfl, rfl⟩
  simp [results, Tryz.results51, go_sem]

set_option maxHeartbeats 600000 in
theorem manner_one_within_any (x : Addr) (n cap : Nat) (w : World) (hn : n = 1) (h0 : w.cell? x = some (strv [119, 105, 116, 104, 105, 110])) :
    Calls Tryz.prog 51 #[.slice (some x) n cap] w fun e w' => e = .returned (.tuple #[.bool (mannerL [119, 105, 116, 104, 105, 110] []).1, .bool (mannerL [119, 105, 116, 104, 105, 110] []).2.1, .bool (mannerL [119, 105, 116, 104, 105, 110] []).2.2.1, .int .i64 (mannerL [119, 105, 116, 104, 105, 110] []).2.2.2]) ∧ w = w' := by
  have hf : mannerL [119, 105, 116, 104, 105, 110] [] = (false, true, false, 1) := by simp [mannerL]
  subst hn
  have HF := Lib.hid hf
  clear hf
  go_enter Tryz.func51, Tryz.ntmps51
  go_wp2
  refine bodyPost_ret (v := .tuple #[.bool false, .bool true, .bool false, .int .i64 1]) ?_ rfl ⟨by rw [HF.out]; rfl, rfl⟩
  simp [results, Tryz.results51, go_sem]

set_option maxHeartbeats 600000 in
theorem manner_one_is_else (x : Addr) (n cap : Nat) (w : World) (hn : n = 1) (h0 : w.cell? x = some (strv [105, 115])) :
    Calls Tryz.prog 51 #[.slice (some x) n cap] w fun e w' => e = .returned (.tuple #[.bool (mannerL [105, 115] []).1, .bool (mannerL [105, 115] []).2.1, .bool (mannerL [105, 115] []).2.2.1, .int .i64 (mannerL [105, 115] []).2.2.2]) ∧ w = w' := by
  have hf : mannerL [105, 115] [] = (false, false, true, 1) := by simp [mannerL]
  subst hn
  have HF := Lib.hid hf
  clear hf
  go_enter Tryz.func51, Tryz.ntmps51
  go_wp2
  refine bodyPost_ret (v := .tuple #[.bool false, .bool false, .bool true, .int .i64 1]) ?_ rfl ⟨by rw [HF.out]; rfl, rfl⟩
  simp [results, Tryz.results51, go_sem]

set_option maxHeartbeats 600000 in
theorem manner_one_not_else (x : Addr) (n cap : Nat) (w : World) (hn : n = 1) (h0 : w.cell? x = some (strv [110, 111, 116])) :
    Calls Tryz.prog 51 #[.slice (some x) n cap] w fun e w' => e = .returned (.tuple #[.bool (mannerL [110, 111, 116] []).1, .bool (mannerL [110, 111, 116] []).2.1, .bool (mannerL [110, 111, 116] []).2.2.1, .int .i64 (mannerL [110, 111, 116] []).2.2.2]) ∧ w = w' := by
  have hf : mannerL [110, 111, 116] [] = (false, false, false, 0) := by simp [mannerL]
  subst hn
  have HF := Lib.hid hf
  clear hf
  go_enter Tryz.func51, Tryz.ntmps51
  go_wp2
  refine bodyPost_ret (v := .tuple #[.bool false, .bool false, .bool false, .int .i64 0]) ?_ rfl ⟨by rw [HF.out]; rfl, rfl⟩
  simp [results, Tryz.results51, go_sem]

set_option maxHeartbeats 600000 in
theorem manner_one_other_any (x : Addr) (n cap : Nat) (a : List UInt8) (w : World) (hn : n = 1) (h0 : w.cell? x = some (strv a)) (neq : ¬ a = [61]) (nin : ¬ a = [105, 110]) (nne : ¬ a = [33, 61]) (nwithin : ¬ a = [119, 105, 116, 104, 105, 110]) (nis : ¬ a = [105, 115]) (nnot : ¬ a = [110, 111, 116]) :
    Calls Tryz.prog 51 #[.slice (some x) n cap] w fun e w' => e = .returned (.tuple #[.bool (mannerL a []).1, .bool (mannerL a []).2.1, .bool (mannerL a []).2.2.1, .int .i64 (mannerL a []).2.2.2]) ∧ w = w' := by
  have hf : mannerL a [] = (false, false, false, 0) := by simp [mannerL, neq, nin, nne, nwithin, nis, nnot]
  have qeq : (a == [61]) = false := by simpa using neq
  have qin : (a == [105, 110]) = false := by simpa using nin
  have qne : (a == [33, 61]) = false := by simpa using nne
  have qwithin : (a == [119, 105, 116, 104, 105, 110]) = false := by simpa using nwithin
  have qis : (a == [105, 115]) = false := by simpa using nis
  have qnot : (a == [110, 111, 116]) = false := by simpa using nnot
  clear neq nin nne nwithin nis nnot
  subst hn
  have HF := Lib.hid hf
  clear hf
  go_enter Tryz.func51, Tryz.ntmps51
  go_wp2
  refine bodyPost_ret (v := .tuple #[.bool false, .bool false, .bool false, .int .i64 0]) ?_ rfl ⟨by rw [HF.out]; rfl, rfl⟩
  simp [results, Tryz.results51, go_sem]

end Go.Proofs.YtkhdbolnhcfgkaaGreatDoor

/- The document's rules: how a relation is put, of whatever words. -/
namespace Go.Proofs.YtkhdbolnhcfgkaaGreatDoor
open Go Go.RowKit
set_option maxRecDepth 10000

theorem manner_any (v : Value) (ws : List (List UInt8)) (w : World) (h : StrsAt w v ws) (hw : ws.length ≤ 1000000) (hne : ws ≠ []) :
    Calls Tryz.prog 51 #[v] w fun e w' =>
      e = .returned (.tuple #[.bool (mannerL (ws.getD 0 []) (ws.getD 1 [])).1, .bool (mannerL (ws.getD 0 []) (ws.getD 1 [])).2.1, .bool (mannerL (ws.getD 0 []) (ws.getD 1 [])).2.2.1, .int .i64 (mannerL (ws.getD 0 []) (ws.getD 1 [])).2.2.2]) ∧ w = w' := by
  obtain ⟨a, cap, rfl, hl, hm, h0, hc⟩ := h
  match ws, hne, hw, hl, hc with
  | [x], _, hw, hl, hc =>
    obtain ⟨y, rfl, c0⟩ := hc 0 (by simp)
    have c0' : w.cell? y = some (strv x) := by simpa [Addr.add] using c0
    show Calls _ _ _ _ (fun e w' => e = .returned (.tuple #[.bool (mannerL x []).1, .bool (mannerL x []).2.1, .bool (mannerL x []).2.2.1, .int .i64 (mannerL x []).2.2.2]) ∧ w = w')
    by_cases k1 : x = [61]
    · subst k1; exact manner_one_eq_any y _ cap w rfl c0'
    by_cases k2 : x = [105, 110]
    · subst k2; exact manner_one_in_any y _ cap w rfl c0'
    by_cases k3 : x = [33, 61]
    · subst k3; exact manner_one_ne_any y _ cap w rfl c0'
    by_cases k4 : x = [119, 105, 116, 104, 105, 110]
    · subst k4; exact manner_one_within_any y _ cap w rfl c0'
    by_cases k5 : x = [105, 115]
    · subst k5; exact manner_one_is_else y _ cap w rfl c0'
    by_cases k6 : x = [110, 111, 116]
    · subst k6; exact manner_one_not_else y _ cap w rfl c0'
    exact manner_one_other_any y _ cap x w rfl c0' k1 k2 k3 k4 k5 k6
  | x :: z :: t, _, hw, hl, hc =>
    obtain ⟨y, hy, c0⟩ := hc 0 (by simp)
    obtain ⟨y2, hy2, c1⟩ := hc 1 (by simp)
    subst hy
    obtain rfl := Option.some.inj hy2
    have c0' : w.cell? y = some (strv x) := by simpa [Addr.add] using c0
    have c1' : w.cell? ⟨y.block, y.off + 1, none⟩ = some (strv z) := by simpa [Addr.add] using c1
    have g2 : 2 ≤ (x :: z :: t).length := by simp
    show Calls _ _ _ _ (fun e w' => e = .returned (.tuple #[.bool (mannerL x z).1, .bool (mannerL x z).2.1, .bool (mannerL x z).2.2.1, .int .i64 (mannerL x z).2.2.2]) ∧ w = w')
    clear hc hl c0 c1
    generalize (x :: z :: t).length = n at *
    by_cases k1 : x = [61]
    · subst k1; exact manner_two_eq_any y n cap z w g2 hw c0' c1'
    by_cases k2 : x = [105, 110]
    · subst k2; exact manner_two_in_any y n cap z w g2 hw c0' c1'
    by_cases k3 : x = [33, 61]
    · subst k3; exact manner_two_ne_any y n cap z w g2 hw c0' c1'
    by_cases k4 : x = [119, 105, 116, 104, 105, 110]
    · subst k4; exact manner_two_within_any y n cap z w g2 hw c0' c1'
    by_cases k5 : x = [105, 115]
    · subst k5
      by_cases m1 : z = [110, 111, 116]
      · subst m1; exact manner_two_is_not y n cap w g2 hw c0' c1'
      · exact manner_two_is_else y n cap z w g2 hw c0' c1' m1
    by_cases k6 : x = [110, 111, 116]
    · subst k6
      by_cases m1 : z = [105, 110]
      · subst m1; exact manner_two_not_in y n cap w g2 hw c0' c1'
      by_cases m2 : z = [119, 105, 116, 104, 105, 110]
      · subst m2; exact manner_two_not_within y n cap w g2 hw c0' c1'
      · exact manner_two_not_else y n cap z w g2 hw c0' c1' m1 m2
    exact manner_two_other_any y n cap x z w g2 hw c0' c1' k1 k2 k3 k4 k5 k6
end Go.Proofs.YtkhdbolnhcfgkaaGreatDoor

/- The plain law of rules, first part: what the document's rules say, and what the program's parser says, as plain functions. -/
namespace Go.Proofs.YtkhdbolnhcfgkaaGreatDoor
open Go

/-- a word -/
abbrev Wd := List UInt8
/-- a number's digits: ahead of the point, and behind it -/
abbrev Dg := List UInt8 × List UInt8

/-! ## The document -/

/-- a range -/
def oneRange : List Wd → Option (Wd × Wd)
  | [x] => if figB x = true then some (x, x) else none
  | [x, d, y] => if d = [46, 46] ∧ figB x = true ∧ figB y = true ∧ ¬ 0 < cmpL x y then some (x, y) else none
  | _ => none

/-- does a range hold of a, with broken or none behind the point -/
def inB (within : Bool) (a : Wd) (broken : Bool) (lo hi : Wd) : Bool :=
  decide (0 ≤ cmpL a lo) && ((decide (cmpL a hi < 0) || (decide (cmpL a hi = 0) && !broken)) && (within || !broken))

/-- is there a digit but 0 -/
def brk (f : Wd) : Bool := f.any (· != 48)

def listedGo (within : Bool) (a : Wd) (broken : Bool) : List (List Wd) → Bool → Option Bool
  | [], b => some b
  | r :: rs, b => match oneRange r with
    | none => none
    | some q => listedGo within a broken rs (b || inB within a broken q.1 q.2)

/-- ranges between commas -/
def listedL (l : List Wd) (a f : Wd) (within one : Bool) : Option Bool :=
  if one = true ∧ ¬ ((partsL [44] l).length = 1 ∧ ((partsL [44] l).headD []).length = 1) then none
  else listedGo within a (brk f) (partsL [44] l) false

def modW (w : Wd) : Bool := w == [109, 111, 100] || w == [37]

/-- how, and a list -/
def relTail (l : List Wd) (a f : Wd) : Option Bool :=
  match mannerL (l.getD 0 []) (l.getD 1 []) with
  | (nt, wi, one, n) => if n = 0 then none else (listedL (l.drop n) a f wi one).map (fun b => b != nt)

/-- a relation -/
def relL (l : List Wd) (x : Dg) : Option Bool :=
  if l.length < 3 then none
  else match operandL x.1 x.2 (l.headD []) with
    | none => none
    | some (a, f) =>
      if modW (l.getD 1 []) then
        if figB (l.getD 2 []) = true ∧ l.getD 2 [] ≠ [48] ∧ 5 ≤ l.length then relTail (l.drop 3) (decL (leftL a (valL (l.getD 2 [])))) f else none
      else relTail (l.drop 1) a f

def andsGo (x : Dg) : List (List Wd) → Bool → Option Bool
  | [], b => some b
  | s :: t, b => match relL s x with
    | none => none
    | some h => andsGo x t (b && h)

def orsGo (x : Dg) : List (List Wd) → Bool → Option Bool
  | [], b => some b
  | o :: t, b => match andsGo x (partsL [97, 110, 100] o) true with
    | none => none
    | some h => orsGo x t (b || h)

/-- a rule -/
def holdsL (s : List UInt8) (x : Dg) : Option Bool :=
  if 200 < s.length then none else match wordsL s with
  | none => none
  | some ws => orsGo x (partsL [111, 114] ws) false

/-! ## The program -/

abbrev Tst := Dg → Bool

/-- does this word stand next -/
def isW (w : Wd) (ws : List Wd) : Bool := ws.head? == some w

def pNum : List Wd → Option (Nat × List Wd)
  | [] => none
  | w :: t => if figB w = true then some (valL w, t) else none

def cmpT (x : Dg) (v : Nat) : Int :=
  if cmpL x.1 (decL v) < 0 then -1 else if 0 < cmpL x.1 (decL v) ∨ brk x.2 = true then 1 else 0

def spanT (a b : Nat) (broken : Bool) : Tst := fun x => decide (0 ≤ cmpT x a) && (decide (cmpT x b ≤ 0) && (broken || !(brk x.2)))

def pItem (ws : List Wd) : Option ((Nat × Nat) × List Wd) :=
  match pNum ws with
  | none => none
  | some (a, t) =>
    if isW [46, 46] t then
      match pNum t.tail with
      | none => none
      | some (b, u) => if b < a then none else some ((a, b), u)
    else some ((a, a), t)

def pListGo (within : Bool) : Nat → List Tst → List Wd → Option (List Tst × List Wd)
  | 0, _, _ => none
  | n + 1, acc, ws => match pItem ws with
    | none => none
    | some (q, t) => if isW [44] t then pListGo within n (acc ++ [spanT q.1 q.2 within]) t.tail else some (acc ++ [spanT q.1 q.2 within], t)

def someT (l : List Tst) : Tst := fun x => l.any (fun t => t x)
def allT (l : List Tst) : Tst := fun x => l.all (fun t => t x)

abbrev Parser := List Wd → Option (Tst × List Wd)

def pList (within : Bool) : Parser := fun ws => (pListGo within (ws.length + 1) [] ws).map fun q => (someT q.1, q.2)

def pManner (ws : List Wd) : Option ((Tst × Bool) × List Wd) :=
  if isW [61] ws then (pList false ws.tail).map fun q => ((q.1, false), q.2)
  else if isW [33, 61] ws then (pList false ws.tail).map fun q => ((q.1, true), q.2)
  else if isW [105, 115] ws then
    (pNum (if isW [110, 111, 116] ws.tail then ws.tail.tail else ws.tail)).map fun q => ((spanT q.1 q.1 false, isW [110, 111, 116] ws.tail), q.2)
  else
    let nt := isW [110, 111, 116] ws
    let u := if nt then ws.tail else ws
    if isW [119, 105, 116, 104, 105, 110] u then (pList true u.tail).map fun q => ((q.1, nt), q.2)
    else if isW [105, 110] u then (pList false u.tail).map fun q => ((q.1, nt), q.2)
    else none

def operandF (c : Wd) : Option (Dg → Dg) :=
  if c = [110] then some (fun x => x) else if c = [105] then some (fun x => (plainL x.1, [])) else if c = [118] then some (fun x => (decL x.2.length, []))
  else if c = [119] then some (fun x => (decL (shortL x.2).length, [])) else if c = [102] then some (fun x => (plainL x.2, []))
  else if c = [116] then some (fun x => (plainL (shortL x.2), [])) else none

def modF (of : Dg → Dg) (m : Nat) : Dg → Dg := fun x => (decL (leftL (of x).1 m), (of x).2)

def pMod (of : Dg → Dg) (t : List Wd) : Option ((Dg → Dg) × List Wd) :=
  if modW (t.headD []) then
    match pNum t.tail with
    | none => none
    | some (m, u) => if m = 0 then none else some (modF of m, u)
  else some (of, t)

def pRel : Parser
  | [] => none
  | w :: t => match operandF w with
    | none => none
    | some of => match pMod of t with
      | none => none
      | some (of', u) => match pManner u with
        | none => none
        | some ((i, nt), v) => some ((fun x => i (of' x) != nt), v)

def pRowGo (word : Wd) (one : Parser) : Nat → List Tst → List Wd → Option (List Tst × List Wd)
  | 0, _, _ => none
  | n + 1, acc, ws => match one ws with
    | none => none
    | some (T, t) => if isW word t then pRowGo word one n (acc ++ [T]) t.tail else some (acc ++ [T], t)

def pRow (word : Wd) (tog : List Tst → Tst) (one : Parser) : Parser := fun ws => (pRowGo word one (ws.length + 1) [] ws).map fun q => (tog q.1, q.2)

def pAnd : Parser := pRow [97, 110, 100] allT pRel
def pOr : Parser := pRow [111, 114] someT pAnd

/-- a byte's class: 3 a letter, 2 a digit, 1 a blank, 0 any other -/
def classL (c : UInt8) : Nat := if 97 ≤ c.toNat ∧ c.toNat ≤ 122 then 3 else if 48 ≤ c.toNat ∧ c.toNat ≤ 57 then 2 else if c.toNat = 32 then 1 else 0

/-- a sign ahead -/
def signL : List UInt8 → Option Wd
  | 33 :: 61 :: _ => some [33, 61]
  | 46 :: 46 :: _ => some [46, 46]
  | 61 :: _ => some [61]
  | 44 :: _ => some [44]
  | 37 :: _ => some [37]
  | _ => none

def tokGo : Nat → List (Wd) → List UInt8 → Option (List Wd)
  | _, acc, [] => some acc
  | 0, _, _ :: _ => none
  | n + 1, acc, c :: t => match signL (c :: t) with
    | some g => tokGo n (acc ++ [g]) ((c :: t).drop g.length)
    | none =>
      if classL c = 0 then none
      else tokGo n (if classL c = 1 then acc else acc ++ [c :: t.takeWhile (fun d => classL d == classL c)]) (t.dropWhile (fun d => classL d == classL c))

def tokL (s : List UInt8) : Option (List Wd) := tokGo (s.length + 1) [] (s.take (s.idxOf 64))

/-- the test that a rule's text says -/
def condL (s : List UInt8) : Option Tst :=
  if 200 < s.length then none else match tokL s with
  | none => none
  | some ws => match pOr ws with
    | some (T, []) => some T
    | _ => none
end Go.Proofs.YtkhdbolnhcfgkaaGreatDoor
