import Derived.Test.YtpepgmccbkkaaaaGreatDoorJ18
import Derived.Test.YtpepgmccbkkaaaaGreatDoorShelf

/- plural's parser: a byte's class; the parser in memory; 'is'. -/
namespace Go.Proofs.YtpepgmccbkkaaaaGreatDoor
open Go Go.RowKit
set_option maxRecDepth 10000

set_option maxHeartbeats 1000000 in
theorem class_any (c : UInt8) (w : World) : Calls Tryz.prog 87 #[.int .u8 c.toNat] w fun e w' => e = .returned (.int .i64 (classL c)) ∧ w = w' := by
  have hlt := c.toNat_lt
  obtain ⟨n, hn⟩ : ∃ n, n = c.toNat := ⟨_, rfl⟩
  obtain ⟨r, hr⟩ : ∃ r, classL c = r := ⟨_, rfl⟩
  rw [hr]
  unfold classL at hr
  rw [← hn] at hlt hr ⊢
  by_cases h1 : 97 ≤ n ∧ n ≤ 122
  · rw [if_pos h1] at hr
    subst hr
    have a1 : decide ((97 : Int) ≤ (n : Int)) = true := by simp; omega
    have a2 : decide ((n : Int) ≤ (122 : Int)) = true := by simp; omega
    clear hn
    go_enter Tryz.func87, Tryz.ntmps87
    go_wp2
    all_goals (first | (exfalso; omega) | (go_ret; exact ⟨rfl, rfl⟩))
  · rw [if_neg h1] at hr
    by_cases h2 : 48 ≤ n ∧ n ≤ 57
    · rw [if_pos h2] at hr
      subst hr
      clear hn
      go_enter Tryz.func87, Tryz.ntmps87
      go_wp2
      all_goals (first | (exfalso; omega) | (go_ret; exact ⟨rfl, rfl⟩))
    · rw [if_neg h2] at hr
      by_cases h3 : n = 32
      · rw [if_pos h3] at hr
        subst hr
        subst h3
        clear hn
        go_enter Tryz.func87, Tryz.ntmps87
        go_wp2
        all_goals (first | (exfalso; omega) | (go_ret; exact ⟨rfl, rfl⟩))
      · rw [if_neg h3] at hr
        subst hr
        have a3 : ((n : Int) == 32) = false := by simp; omega
        clear hn
        go_enter Tryz.func87, Tryz.ntmps87
        go_wp2
        all_goals (first | (exfalso; omega) | (go_ret; exact ⟨rfl, rfl⟩))

/-- all that was there is as it was, but for block p -/
structure But (p : Nat) (w w' : World) : Prop where
  os : w'.os = w.os
  tape : w'.tape = w.tape
  output : w'.output = w.output
  size : w.heap.size ≤ w'.heap.size
  block : ∀ k, k < w.heap.size → k ≠ p → w'.heap[k]? = w.heap[k]?

theorem But.refl (p : Nat) (w : World) : But p w w := ⟨rfl, rfl, rfl, Nat.le_refl _, fun _ _ _ => rfl⟩
theorem But.trans {p : Nat} {a b c : World} (h : But p a b) (k : But p b c) : But p a c :=
  ⟨k.os.trans h.os, k.tape.trans h.tape, k.output.trans h.output, Nat.le_trans h.size k.size, fun i hi hp => (k.block i (Nat.lt_of_lt_of_le hi h.size) hp).trans (h.block i hi hp)⟩
theorem But.of {p : Nat} {w w' : World} (h : Below w.heap.size w w') : But p w w' := ⟨h.os, h.tape, h.output, h.size, fun k hk _ => h.block k hk⟩
theorem But.below {p : Nat} {w w' w'' : World} (h : But p w w') (hb : Below w'.heap.size w' w'') : But p w w'' := h.trans (But.of hb)
theorem But.set (p : Nat) (w : World) (j : Nat) (u : Value) : But p w (w.setCell ⟨p, j, none⟩ u) :=
  ⟨rfl, rfl, rfl, by simp [World.setCell], fun k _ hp => Below.heap_setCell _ _ _ _ hp⟩
theorem But.drew {p : Nat} {w w' : World} (h : But p w w') : But p w w'.drew := ⟨h.os, h.tape, h.output, h.size, h.block⟩
theorem But.cell {p : Nat} {w w' : World} (h : But p w w') {a : Addr} {v : Value} (hc : w.cell? a = some v) (ha : a.block ≠ p) : w'.cell? a = some v :=
  (World.cell?_of_block (h.block a.block (World.block_lt_of_cell? w a hc) ha)).trans hc
theorem But.keep {p lo hi : Nat} {w w' : World} (h : But p w w') (hp : p < lo) (hi' : hi ≤ w.heap.size) : KeepR lo hi w w' :=
  ⟨Nat.le_trans hi' h.size, fun k h1 h2 => h.block k (by omega) (by omega)⟩
theorem But.low {p lo : Nat} {w w' : World} (h : But p w w') (hlo : lo ≤ p) (h2 : lo ≤ w.heap.size) : Below lo w w' := ⟨h.os, h.tape, h.output, h.size, fun k hk => h.block k (by omega) (by omega)⟩

/-- a block of texts -/
def StrB (w : World) (k : Nat) : Prop := ∃ cs fr, w.heap[k]? = some (.cells cs 9 fr)

theorem StrB.of {w w' : World} {k : Nat} (h : StrB w k) (he : w'.heap[k]? = w.heap[k]?) : StrB w' k := by
  obtain ⟨cs, fr, h⟩ := h
  exact ⟨cs, fr, he.trans h⟩

/-- a parser at block p: the words that are left -/
def PAt (w : World) (p : Nat) (ws : List Wd) : Prop :=
  ∃ a cap, w.cell? ⟨p, 0, none⟩ = some (.slice a ws.length cap) ∧ w.frozen? ⟨p, 0, none⟩ = false ∧ ws.length ≤ cap ∧ cap ≤ maxLen ∧ ∀ j (h : j < ws.length), ∃ b, a = some b ∧ (b.block ≠ p ∧ StrB w b.block) ∧ w.cell? (b.add j) = some (strv ws[j])

theorem PAt.lt {w : World} {p : Nat} {ws : List Wd} (h : PAt w p ws) : p < w.heap.size := by
  obtain ⟨a, cap, hc, _⟩ := h
  exact World.block_lt_of_cell? w _ hc

theorem PAt.below {w w' : World} {p : Nat} {ws : List Wd} (h : PAt w p ws) (hb : Below w.heap.size w w') : PAt w' p ws := by
  have hlt := h.lt
  obtain ⟨a, cap, hc, hf, h1, h2, h3⟩ := h
  refine ⟨a, cap, (hb.cell hlt).trans hc, (hb.frozen hlt).trans hf, h1, h2, fun j hj => ?_⟩
  obtain ⟨b, e1, e2, e3⟩ := h3 j hj
  have hl := World.block_lt_of_cell? w _ e3
  rw [addr_add] at hl
  exact ⟨b, e1, ⟨e2.1, e2.2.of (hb.block _ hl)⟩, (hb.cell (World.block_lt_of_cell? w _ e3)).trans e3⟩

/-- the first word is passed -/
theorem PAt.pass {w : World} {p cap : Nat} {b : Addr} {x : Wd} {t : List Wd} (hf : w.frozen? ⟨p, 0, none⟩ = false) (hc : w.cell? ⟨p, 0, none⟩ = some (.slice (some b) (t.length + 1) cap)) (h1 : t.length + 1 ≤ cap) (h2 : cap ≤ maxLen) (hb : b.block ≠ p ∧ StrB w b.block) (hw : ∀ j (h : j < (x :: t).length), w.cell? (b.add j) = some (strv (x :: t)[j])) :
    PAt (w.setCell ⟨p, 0, none⟩ (.slice (some (b.add 1)) t.length (cap - 1))) p t := by
  refine ⟨some (b.add 1), cap - 1, by rw [World.cell?_setCell_same (h := hc)], by simpa using hf, by omega, by omega, fun j hj => ⟨b.add 1, rfl, by rw [addr_add]; exact ⟨hb.1, hb.2.of (Below.heap_setCell _ _ _ _ hb.1)⟩, ?_⟩⟩
  have := hw (j + 1) (by simp; omega)
  rw [add_add, Nat.add_comm 1 j, World.cell?_setCell_other (h := fun e => hb.1 (by rw [← addr_add b (j + 1), ← e]))]
  simpa using this

theorem PAt.last {w : World} {p cap : Nat} {b : Addr} (hf : w.frozen? ⟨p, 0, none⟩ = false) {n : Nat} (hc : w.cell? ⟨p, 0, none⟩ = some (.slice (some b) n cap)) :
    PAt (w.setCell ⟨p, 0, none⟩ (.slice (some b) 0 0)) p [] :=
  ⟨some b, 0, by rw [World.cell?_setCell_same (h := hc)]; rfl, by simpa using hf, Nat.le_refl _, Nat.zero_le _, fun j hj => absurd hj (Nat.not_lt_zero j)⟩

/-- one of these words stands next -/
def anyW (ms : List Wd) (ws : List Wd) : Bool := ms.any (fun m => isW m ws)

def IsPost (p : Nat) (ms ws : List Wd) (w : World) (e : Ending) (w' : World) : Prop :=
  e = .returned (.bool (anyW ms ws)) ∧ PAt w' p (if anyW ms ws then ws.tail else ws) ∧ But p w w' ∧ w'.heap.size = w.heap.size

theorem anyW_of {ms ws : List Wd} {k : Nat} (h : k < ms.length) (hT : isW ms[k] ws = true) : anyW ms ws = true := List.any_eq_true.2 ⟨ms[k], List.getElem_mem h, hT⟩
theorem anyW_snoc {ms ws : List Wd} {k : Nat} (h : k < ms.length) (h0 : anyW (ms.take k) ws = false) (hT : isW ms[k] ws = false) : anyW (ms.take (k + 1)) ws = false := by
  unfold anyW at *
  rw [List.take_succ_eq_append_getElem h, List.any_append, h0]
  simp [hT]

set_option maxHeartbeats 2000000 in
theorem is_any (p : Nat) (ms ws : List Wd) (v : Value) (w : World) (hp : PAt w p ws) (hm : StrsAt w v ms) (hl : ms.length ≤ 1000) :
    Calls Tryz.prog 88 #[.pointer (some ⟨p, 0, none⟩), v] w (IsPost p ms ws w) := by
  have HP := Lib.hid hp
  obtain ⟨a, cap, hc, hf, h1, h2, h3⟩ := hp
  obtain ⟨a2, cap2, rfl, m1, m2, m3, m4⟩ := hm
  have HM := Lib.hid m4
  have H3 := Lib.hid h3
  clear m4 h3
  have hmx : cap ≤ 9223372036854775807 := by unfold maxLen at h2; omega
  go_enter Tryz.func88, Tryz.ntmps88
  go_wp2
  go_loop [9] (fun i => ∃ k : Nat, k ≤ ms.length ∧ i = .int .i64 k ∧ anyW (ms.take k) ws = false) (fun i => ms.length - (intOf i).toNat)
  case atStart => exact ⟨0, Nat.zero_le _, rfl, rfl⟩
  case round =>
    obtain ⟨k, hk, rfl, hz⟩ := hrel
    have HZ := Lib.hid hz
    clear hz
    by_cases hlt : k < ms.length
    · obtain ⟨b2, rfl, hc2⟩ := HM.out k hlt
      obtain hws | ⟨x, t, hws⟩ : ws = [] ∨ ∃ x t, ws = x :: t := by
        cases ws with
        | nil => exact .inl rfl
        | cons x t => exact .inr ⟨x, t, rfl⟩
      · have hq : isW ms[k] ws = false := by rw [hws]; rfl
        have HF := Lib.hid (anyW_snoc hlt HZ.out hq)
        rw [hws] at hc
        clear hq hws
        go_wp2
        exact ⟨⟨k + 1, by omega, by go_num, HF.out⟩, by simp [intOf]; omega⟩
      · obtain ⟨b, rfl, hb, hx⟩ := H3.out 0 (by rw [hws]; simp)
        have hx' : w.cell? b = some (strv x) := by
          have : (b.add 0) = b := by simp [Addr.add]
          rw [this] at hx
          rw [hx]
          simp [hws]
        have hiw := isW_cons ms[k] x t
        have hlen : ws.length = t.length + 1 := by rw [hws]; rfl
        rw [hlen] at hc h1
        clear hx
        cases hq : (x == ms[k])
        · have HF := Lib.hid (anyW_snoc hlt HZ.out (by rw [hws, hiw, hq]))
          have HW := Lib.hid hws
          clear hiw hws hlen
          go_wp2
          exact ⟨⟨k + 1, by omega, by go_num, HF.out⟩, by simp [intOf]; omega⟩
        · have HF := Lib.hid (anyW_of (ws := ws) hlt (by rw [hws, hiw, hq]))
          have HW := Lib.hid hws
          clear hiw hws hlen
          by_cases hc1 : cap = 1
          · have ht : t = [] := List.eq_nil_of_length_eq_zero (by omega)
            subst ht
            subst hc1
            go_wp2
            go_ret
            refine ⟨by rw [HF.out]; rfl, ?_, But.set p w 0 _, by simp [World.setCell]⟩
            rw [if_pos HF.out, HW.out]
            exact PAt.last hf hc
          · have hne : ¬ (cap : Int) = 1 := by omega
            go_wp2
            go_ret
            refine ⟨by rw [HF.out]; rfl, ?_, But.set p w 0 _, by simp [World.setCell]⟩
            rw [if_pos HF.out, HW.out]
            refine PAt.pass hf hc h1 h2 hb (x := x) (fun j hj => ?_)
            obtain ⟨b', e1, _, e3⟩ := H3.out j (by rw [HW.out]; exact hj)
            cases e1
            rw [e3]
            simp [HW.out]
    · obtain rfl : k = ms.length := by omega
      have hz := HZ.out
      rw [List.take_length] at hz
      have HF := Lib.hid hz
      clear hz HZ
      go_wp2
      go_ret
      refine ⟨by rw [HF.out]; rfl, ?_, But.refl _ _, rfl⟩
      rw [HF.out]
      exact HP.out
end Go.Proofs.YtpepgmccbkkaaaaGreatDoor

/- plural's parser: numbers. -/
namespace Go.Proofs.YtpepgmccbkkaaaaGreatDoor
open Go Go.RowKit
set_option maxRecDepth 10000

/-- what strconv's errors lie in; block p is none of them -/
structure RT (p : Nat) (w : World) : Prop where
  s : ∃ t v, w.cell? ⟨5, 0, none⟩ = some (.iface t v)
  r : ∃ t v, w.cell? ⟨6, 0, none⟩ = some (.iface t v)
  ns : 5 ≠ p
  nr : 6 ≠ p

theorem RT.but {p : Nat} {w w' : World} (h : RT p w) (hb : But p w w') : RT p w' := by
  obtain ⟨⟨t, v, hs⟩, ⟨t2, v2, hr⟩, h1, h2⟩ := h
  exact ⟨⟨t, v, hb.cell hs h1⟩, ⟨t2, v2, hb.cell hr h2⟩, h1, h2⟩

/-- a rule's word -/
structure WOk (x : Wd) : Prop where
  ne : x ≠ []
  len : x.length ≤ 1000
  form : x.all isDig = true ∨ isDig (x.headD 0) = false

theorem decFrom_dig : ∀ (l : List UInt8) (acc : Nat), l.all isDig = true → Lib.decFrom acc l = some (l.foldl (fun v c => 10 * v + (c.toNat - 48)) acc)
  | [], _, _ => rfl
  | c :: t, acc, h => by
    simp only [List.all_cons, Bool.and_eq_true] at h
    have hc := (isDig_iff c).1 h.1
    rw [Lib.decFrom, Lib.digitVal, if_pos (by omega)]
    dsimp only
    rw [decFrom_dig t _ h.2, List.foldl_cons, Nat.mul_comm acc 10]

theorem atoi_dig {l : List UInt8} (h : l.all isDig = true) (hn : l ≠ []) : Lib.atoi l = some (valL l : Int) := by
  cases l with
  | nil => exact absurd rfl hn
  | cons c t =>
    have hd := h
    simp only [List.all_cons, Bool.and_eq_true] at hd
    have hc := (isDig_iff c).1 hd.1
    have h45 : (c == 45) = false := by
      rw [beq_eq_false_iff_ne]
      rintro rfl
      exact absurd hc.1 (by decide)
    have h43 : (c == 43) = false := by
      rw [beq_eq_false_iff_ne]
      rintro rfl
      exact absurd hc.1 (by decide)
    rw [Lib.atoi, h45, h43]
    simp only [Bool.false_eq_true, if_false, Lib.decNat]
    rw [if_neg (by simp), decFrom_dig _ 0 h]
    rfl

theorem below_bytesWorld (w : World) (e : TypeId) (t : ByteArray) : Below w.heap.size w (Lib.bytesWorld w e t) := Lib.bytesWorld_below _ _ _

/-- strconv.Atoi of any text -/
theorem atoi_any (p : Nat) (s : ByteArray) (w : World) (hs : s.size ≤ 1000) (hT : RT p w) :
    Calls Tryz.prog 115 #[.string s] w fun e w' => (∃ v ev, e = .returned (.tuple #[.int .i64 v, ev]) ∧ (ev = .nilIface ∨ ∃ N, ev = .iface 211 (.pointer (some N)))) ∧ Below w.heap.size w w' := by
  obtain ⟨⟨t, v, hS⟩, ⟨t2, v2, hR⟩, _, _⟩ := hT
  cases h : Lib.atoiAll s.data.toList with
  | ok n =>
    refine (Tryz.strconv_Atoi_ok s (by omega) n h w).mono ?_
    rintro e w' ⟨rfl, rfl | ⟨t, rfl⟩⟩
    · exact ⟨⟨_, _, rfl, .inl rfl⟩, Below.refl _ _⟩
    · exact ⟨⟨_, _, rfl, .inl rfl⟩, below_bytesWorld _ _ _⟩
  | range =>
    refine (Tryz.strconv_Atoi_range s (by omega) h _ w hR (.inr ⟨_, _, rfl⟩)).mono ?_
    rintro e w' ⟨N, rfl, _, _, hb⟩
    exact ⟨⟨_, _, rfl, .inr ⟨_, rfl⟩⟩, hb⟩
  | _ =>
    refine (Tryz.strconv_Atoi_none s (by omega) (fun v q => by rw [h] at q; cases q) (fun q => by rw [h] at q; cases q) _ w hS (.inr ⟨_, _, rfl⟩)).mono ?_
    rintro e w' ⟨N, rfl, _, _, hb⟩
    exact ⟨⟨_, _, rfl, .inr ⟨_, rfl⟩⟩, hb⟩

theorem atoi_num (s : ByteArray) (w : World) (hs : s.size ≤ 9) (hd : s.data.toList.all isDig = true) (hn : s.data.toList ≠ []) :
    Calls Tryz.prog 115 #[.string s] w fun e w' => e = .returned (.tuple #[.int .i64 (valL s.data.toList), .nilIface]) ∧ Below w.heap.size w w' := by
  refine (Tryz.strconv_Atoi s (valL s.data.toList) (by omega) (atoi_dig hd hn) w).mono ?_
  rintro e w' ⟨rfl, t, rfl⟩
  exact ⟨rfl, below_bytesWorld _ _ _⟩

/-- what is thrown where a rule is none -/
abbrev thrown : Ending := .panicked [{ v := .iface 151 (.agg #[]), recovered := false }]

def NumQ (p : Nat) (r : Option (Nat × List Wd)) (w : World) (e : Ending) (w' : World) : Prop :=
  (match r with | none => e = thrown | some (v, t) => e = .returned (.int .i64 v) ∧ PAt w' p t) ∧ But p w w'

theorem figB_of {x : Wd} (hd : x.all isDig = true) (hn : x ≠ []) : figB x = (decide (x.length ≤ 9) && (decide (x.length = 1) || decide (x.headD 0 ≠ 48))) := by
  unfold figB numeralsL
  rw [hd]
  cases x with
  | nil => exact absurd rfl hn
  | cons c t => simp

theorem class_dig (c : UInt8) : (classL c = 2) ↔ isDig c = true := by
  rw [isDig_iff]
  unfold classL
  split
  · constructor <;> intro h <;> omega
  split
  · constructor <;> intro h <;> omega
  split
  · constructor <;> intro h <;> omega
  · constructor <;> intro h <;> omega

set_option maxHeartbeats 1000000 in
theorem number_nil (p : Nat) (w : World) (hp : PAt w p []) : Calls Tryz.prog 94 #[.pointer (some ⟨p, 0, none⟩)] w (NumQ p none w) := by
  obtain ⟨a, cap, hc, hf, h1, h2, h3⟩ := hp
  clear h3
  go_enter Tryz.func94, Tryz.ntmps94
  go_wp2
  exact ⟨rfl, rfl, But.refl _ _⟩

theorem PAt.step {w : World} {p cap : Nat} {b : Addr} {x : Wd} {t : List Wd} (h : PAt w p (x :: t)) (hc : w.cell? ⟨p, 0, none⟩ = some (.slice (some b) (t.length + 1) cap)) :
    PAt (w.setCell ⟨p, 0, none⟩ (.slice (some (b.add 1)) t.length (cap - 1))) p t ∧ (t = [] → PAt (w.setCell ⟨p, 0, none⟩ (.slice (some b) 0 0)) p t) := by
  obtain ⟨a, cap', hc', hf, h1, h2, h3⟩ := h
  rw [hc] at hc'
  cases hc'
  obtain ⟨b', e1, e2, _⟩ := h3 0 (by simp)
  cases e1
  refine ⟨PAt.pass hf hc (by simpa using h1) h2 e2 (x := x) (fun j hj => ?_), fun ht => ?_⟩
  · obtain ⟨b', e1, _, e3⟩ := h3 j hj
    cases e1
    exact e3
  · subst ht
    exact PAt.last hf hc

theorem figB_short {x : Wd} (hd : x.all isDig = true) (hn : x ≠ []) (h9 : x.length ≤ 9) : figB x = (decide (x.length = 1) || decide (x.headD 0 ≠ 48)) := by
  rw [figB_of hd hn, decide_eq_true h9, Bool.true_and]

theorem index_head (c : UInt8) (t : List UInt8) (h : 0 < (ByteArray.mk (c :: t).toArray).size) : (ByteArray.mk (c :: t).toArray)[0] = c := by
  simp [ByteArray.getElem_eq_getElem_data]

set_option maxHeartbeats 2000000 in
theorem number_cons (p : Nat) (c : UInt8) (x' : List UInt8) (t : List Wd) (w : World) (hp : PAt w p ((c :: x') :: t)) (hx : WOk (c :: x')) (hT : RT p w) :
    Calls Tryz.prog 94 #[.pointer (some ⟨p, 0, none⟩)] w (NumQ p (pNum ((c :: x') :: t)) w) := by
  have HP := Lib.hid hp
  have HX := Lib.hid hx
  have HT := Lib.hid hT
  have hlt := hp.lt
  obtain ⟨a, cap, hc, hf, h1, h2, h3⟩ := hp
  obtain ⟨b, rfl, hb, hx0⟩ := h3 0 (by simp)
  have hx' : w.cell? b = some (strv (c :: x')) := by
    have : (b.add 0) = b := by simp [Addr.add]
    rw [this] at hx0
    exact hx0
  have hmx : cap ≤ 9223372036854775807 := by unfold maxLen at h2; omega
  have hlen : ((c :: x') :: t).length = t.length + 1 := rfl
  rw [hlen] at hc h1
  obtain ⟨r, hr⟩ : ∃ r, pNum ((c :: x') :: t) = r := ⟨_, rfl⟩
  rw [hr]
  have HR := Lib.hid hr
  obtain ⟨s, hs⟩ : ∃ s : ByteArray, s = ⟨(c :: x').toArray⟩ := ⟨_, rfl⟩
  have hs0 : 0 < s.size := by rw [hs, size_mk]; simp
  have hsz : s.size = x'.length + 1 := by rw [hs, size_mk]; rfl
  have hg : s[0] = c := by subst hs; exact index_head c x' hs0
  have hxl := hx.len
  have hsl : s.size ≤ 1000 := by rw [hsz]; simpa using hxl
  have hsd : s.data.toList = c :: x' := by rw [hs]
  have hcs : w.cell? b = some (.string s) := by rw [hx', hs]
  clear hx0 h3 hr hx' hx hT hs
  have HG := Lib.hid hg
  have HSD := Lib.hid hsd
  have HSZ := Lib.hid hsz
  by_cases hd : isDig c = true
  · have hall : (c :: x').all isDig = true := by
      rcases HX.out.form with h | h
      · exact h
      · exact absurd hd (by simpa using h)
    have hcl : classL c = 2 := (class_dig c).2 hd
    have hcl' : ((classL c : Int) != 2) = false := by rw [hcl]; decide
    have hcw := fun W => class_any c W
    have hfb := figB_of hall (by simp)
    by_cases h9 : s.size ≤ 9
    · have hlen9 : (c :: x').length ≤ 9 := by simp; omega
      rw [decide_eq_true hlen9, Bool.true_and] at hfb
      have h9' : decide ((9 : Int) < (s.size : Int)) = false := by simp; omega
      have HA := Lib.hid (atoi_num s w h9 (by rw [hsd]; exact hall) (by rw [hsd]; simp))
      by_cases hz : 1 < s.size ∧ c = 48
      · have hr0 : r = none := by
          rw [← HR.out]
          have : figB (c :: x') = false := by
            rw [hfb]
            simp [hz.2]
            intro e
            rw [e] at hsz
            simp at hsz
            omega
          simp [pNum, this]
        subst hr0
        have e48 : ((s[0].toNat : Int) == 48) = true := by rw [hg, hz.2]; decide
        have e1 : decide ((1 : Int) < (s.size : Int)) = true := by simp; omega
        rw [← hg] at hcw hcl'
        have HCW := Lib.hid hcw
        clear hcl hcw hg hsd hd hall hfb hz hsz
        go_enter Tryz.func94, Tryz.ntmps94
        go_wp2_with fail
        refine HA.out.mono ?_
        rintro e w1 ⟨rfl, hb1⟩
        go_wp2_with fail
        refine (HCW.out _).mono ?_
        rintro e w2 ⟨rfl, rfl⟩
        go_wp2
        exact ⟨rfl, rfl, But.of hb1⟩
      · have hfig : figB (c :: x') = true := by
          rw [hfb]
          by_cases h1s : x'.length = 0
          · simp [h1s]
          · have : ¬ c = 48 := fun e => hz ⟨by omega, e⟩
            simp [this]
        have hr0 : r = some (valL (c :: x'), t) := by
          rw [← HR.out]
          simp [pNum, hfig]
        subst hr0
        have HSV := Lib.hid hsd
        rw [← hg] at hcw hcl'
        have HCW := Lib.hid hcw
        have hpass : ∀ W, Below w.heap.size w W → W.cell? ⟨p, 0, none⟩ = some (.slice (some b) (t.length + 1) cap) ∧ W.frozen? ⟨p, 0, none⟩ = false := fun W hW => ⟨(hW.cell hlt).trans hc, (hW.frozen hlt).trans hf⟩
        have HPS := Lib.hid hpass
        have hzz : ¬ (1 < s.size ∧ s[0] = 48) := by rw [hg]; exact hz
        have HTL := Lib.hid hlen
        clear hcl hcw hg hsd hd hall hfb hz hfig hpass hsz hlen
        by_cases hc1 : cap = 1
        · have ht0 : t = [] := List.eq_nil_of_length_eq_zero (by omega)
          subst ht0
          subst hc1
          by_cases hs1 : 1 < s.size
          · have e48 : ((s[0].toNat : Int) == 48) = false := by
              rw [show ((48 : Int)) = (((48 : UInt8).toNat : Nat) : Int) from rfl, toNat_beq]
              simpa using fun e => hzz ⟨hs1, e⟩
            have e1 : decide ((1 : Int) < (s.size : Int)) = true := by simp; omega
            clear hzz
            go_enter Tryz.func94, Tryz.ntmps94
            go_wp2_with fail
            refine HA.out.mono ?_
            rintro e w1 ⟨rfl, hb1⟩
            obtain ⟨j0, j1⟩ := HPS.out w1 hb1
            have HP1 := Lib.hid (HP.out.below hb1)
            go_wp2_with fail
            refine (HCW.out _).mono ?_
            rintro e w2 ⟨rfl, rfl⟩
            go_wp2
            go_ret
            exact ⟨⟨by rw [HSV.out]; rfl, (HP1.out.step j0).2 rfl⟩, (But.of hb1).trans (But.set p _ 0 _)⟩
          · have e1 : decide ((1 : Int) < (s.size : Int)) = false := by simp; omega
            clear hzz
            go_enter Tryz.func94, Tryz.ntmps94
            go_wp2_with fail
            refine HA.out.mono ?_
            rintro e w1 ⟨rfl, hb1⟩
            obtain ⟨j0, j1⟩ := HPS.out w1 hb1
            have HP1 := Lib.hid (HP.out.below hb1)
            go_wp2_with fail
            refine (HCW.out _).mono ?_
            rintro e w2 ⟨rfl, rfl⟩
            go_wp2
            go_ret
            exact ⟨⟨by rw [HSV.out]; rfl, (HP1.out.step j0).2 rfl⟩, (But.of hb1).trans (But.set p _ 0 _)⟩
        · have hne : ¬ (cap : Int) = 1 := by omega
          by_cases hs1 : 1 < s.size
          · have e48 : ((s[0].toNat : Int) == 48) = false := by
              rw [show ((48 : Int)) = (((48 : UInt8).toNat : Nat) : Int) from rfl, toNat_beq]
              simpa using fun e => hzz ⟨hs1, e⟩
            have e1 : decide ((1 : Int) < (s.size : Int)) = true := by simp; omega
            clear hzz
            go_enter Tryz.func94, Tryz.ntmps94
            go_wp2_with fail
            refine HA.out.mono ?_
            rintro e w1 ⟨rfl, hb1⟩
            obtain ⟨j0, j1⟩ := HPS.out w1 hb1
            have HP1 := Lib.hid (HP.out.below hb1)
            go_wp2_with fail
            refine (HCW.out _).mono ?_
            rintro e w2 ⟨rfl, rfl⟩
            go_wp2
            go_ret
            exact ⟨⟨by rw [HSV.out]; rfl, (HP1.out.step j0).1⟩, (But.of hb1).trans (But.set p _ 0 _)⟩
          · have e1 : decide ((1 : Int) < (s.size : Int)) = false := by simp; omega
            clear hzz
            go_enter Tryz.func94, Tryz.ntmps94
            go_wp2_with fail
            refine HA.out.mono ?_
            rintro e w1 ⟨rfl, hb1⟩
            obtain ⟨j0, j1⟩ := HPS.out w1 hb1
            have HP1 := Lib.hid (HP.out.below hb1)
            go_wp2_with fail
            refine (HCW.out _).mono ?_
            rintro e w2 ⟨rfl, rfl⟩
            go_wp2
            go_ret
            exact ⟨⟨by rw [HSV.out]; rfl, (HP1.out.step j0).1⟩, (But.of hb1).trans (But.set p _ 0 _)⟩
    · have hr0 : r = none := by
        rw [← HR.out]
        have : figB (c :: x') = false := by
          rw [hfb, decide_eq_false (by simp; omega), Bool.false_and]
        simp [pNum, this]
      subst hr0
      have h9' : decide ((9 : Int) < (s.size : Int)) = true := by simp; omega
      have HA := Lib.hid (atoi_any p s w hsl HT.out)
      rw [← hg] at hcw hcl'
      have HCW := Lib.hid hcw
      clear hcl hcw hg hsd hd hall hfb hsz
      go_enter Tryz.func94, Tryz.ntmps94
      go_wp2_with fail
      refine HA.out.mono ?_
      rintro e w1 ⟨⟨v, ev, rfl, hev⟩, hb1⟩
      rcases hev with rfl | ⟨N, rfl⟩
      · go_wp2_with fail
        refine (HCW.out _).mono ?_
        rintro e w2 ⟨rfl, rfl⟩
        go_wp2
        exact ⟨rfl, rfl, But.of hb1⟩
      · go_wp2
        exact ⟨rfl, rfl, But.of hb1⟩
  · have hr0 : r = none := by
      rw [← HR.out]
      have : figB (c :: x') = false := by
        unfold figB numeralsL
        simp [hd]
      simp [pNum, this]
    subst hr0
    have hcl : ¬ (classL c = 2) := fun e => hd ((class_dig c).1 e)
    have hcl' : ((classL c : Int) != 2) = true := by simp; omega
    have HA := Lib.hid (atoi_any p s w hsl HT.out)
    have hcw := fun W => class_any c W
    rw [← hg] at hcw hcl'
    have HCW := Lib.hid hcw
    clear hcl hcw hg hsd hd hsz
    go_enter Tryz.func94, Tryz.ntmps94
    go_wp2_with fail
    refine HA.out.mono ?_
    rintro e w1 ⟨⟨v, ev, rfl, hev⟩, hb1⟩
    rcases hev with rfl | ⟨N, rfl⟩
    · go_wp2_with fail
      refine (HCW.out _).mono ?_
      rintro e w2 ⟨rfl, rfl⟩
      go_wp2
      exact ⟨rfl, rfl, But.of hb1⟩
    · go_wp2
      exact ⟨rfl, rfl, But.of hb1⟩

theorem number_any (p : Nat) (ws : List Wd) (w : World) (hp : PAt w p ws) (hx : ∀ x ∈ ws, WOk x) (hT : RT p w) :
    Calls Tryz.prog 94 #[.pointer (some ⟨p, 0, none⟩)] w (NumQ p (pNum ws) w) := by
  match ws, hp, hx with
  | [], hp, _ => exact number_nil p w hp
  | x :: t, hp, hx =>
    have h := hx x (by simp)
    cases x with
    | nil => exact absurd rfl h.ne
    | cons c x' => exact number_cons p c x' t w hp h hT

theorem pNum_small {ws t : List Wd} {v : Nat} (h : pNum ws = some (v, t)) : v ≤ 1000000000 ∧ (∀ x ∈ t, x ∈ ws) ∧ t.length + 1 = ws.length := by
  cases ws with
  | nil => cases h
  | cons w u =>
    by_cases hf : figB w = true
    · simp only [pNum, hf, if_true, Option.some.injEq, Prod.mk.injEq] at h
      obtain ⟨rfl, rfl⟩ := h
      have h1 := (Fig.of hf)
      have h2 := valL_lt w h1.1.dig
      have h3 : 10 ^ w.length ≤ 10 ^ 9 := Nat.pow_le_pow_right (by decide) h1.2
      exact ⟨by omega, fun x hx => by simp [hx], by simp⟩
    · simp [pNum, hf] at h
end Go.Proofs.YtpepgmccbkkaaaaGreatDoor
