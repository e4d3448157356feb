import Derived.Test.YtpepgmccbkkaaaaGreatDoorJ5
import Derived.Lib.Builder
import Derived.Lib.RuneBytes

/- strings.Builder in this program: its check for copies ends 'unsupported' in this translation, so the shelf's contracts do not lie here: walked anew. -/
namespace Go.Proofs.YtpepgmccbkkaaaaGreatDoor
open Go Go.RowKit
set_option maxRecDepth 10000

theorem builder_info : (Tryz.prog.info? 95).map (fun j => j.size) = some 2 := by kernel_rfl

set_option maxHeartbeats 1000000 in
theorem copyCheck_any (B b : Nat) (bs : List Value) (w : World) (h : Lib.IsBuilder 95 5 B b bs w) :
    Calls Tryz.prog 59 #[.pointer (some ⟨b, 0, none⟩)] w fun e w' => e = .returned (.tuple #[]) ∧ Lib.BuilderAt 95 5 B b (.pointer (some ⟨b, 0, none⟩)) bs w' ∧ Below B w w' := by
  obtain ⟨j, hj, hjs⟩ := Option.map_eq_some_iff.1 builder_info
  rcases h with h | h
  · have h0 := h.cell0
    have hsh := h.shape
    have hfz := h.frozen0
    have H := Lib.hid h
    clear h
    go_enter Tryz.func59, Tryz.ntmps59
    go_wp2
    rw [Lib.run_to_unsafe w ⟨b, 0, none⟩ Tryz.underlying93 Tryz.underlying101 hj (by rw [hjs]; decide) hsh (Nat.zero_lt_succ 1)]
    simp only [Result.andThen]
    rw [Oper.upon_value]
    go_wp2
    rw [run_callFunc_extern Tryz.func77 (by kernel_rfl) (by kernel_rfl) (by kernel_rfl) (e := Extern.AbiNoEscape.same) (by kernel_rfl)]
    rw [Lib.run_noEscape]
    simp only [Result.andThen]
    rw [Oper.upon_value]
    go_wp2
    rw [Lib.run_from_unsafe w ⟨b, 0, none⟩ Tryz.underlying101 Tryz.underlying93 hj hsh (by kernel_rfl)]
    simp only [Result.andThen]
    rw [Oper.upon_value]
    go_wp2
    go_end0
    exact ⟨rfl, H.out.used _, (Below.refl B w).setCell (p := ⟨b, 0, none⟩) H.out.1 _⟩
  · have h0 := h.cell0
    have H := Lib.hid h
    clear h
    go_enter Tryz.func59, Tryz.ntmps59
    go_wp2
    rw [Lib.run_neq_ptr_same w _ Tryz.underlying93 hj]
    go_wp2
    go_end0
    exact ⟨rfl, H.out, Below.refl B _⟩

set_option maxHeartbeats 2000000 in
theorem writeRune_any (B b : Nat) (bs : List Value) (r : Int) (hr0 : -2147483648 ≤ r) (hr1 : r ≤ 2147483647) (w : World) (h : Lib.IsBuilder 95 5 B b bs w) (hlen : bs.length + 4 ≤ 140737488355328) (hBw : B ≤ w.heap.size) :
    Calls Tryz.prog 42 #[.pointer (some ⟨b, 0, none⟩), .int .i32 r] w fun e w' => (∃ v, e = .returned v) ∧ Lib.IsBuilder 95 5 B b (bs ++ Lib.runeCells r) w' ∧ Below B w w' := by
  have hk4 := Lib.runeCells_le r
  go_enter Tryz.func42, Tryz.ntmps42
  go_wp2_with fail
  refine (copyCheck_any B b bs _ h).mono ?_
  rintro e w1 ⟨rfl, h1, hb1⟩
  obtain ⟨hB, v, hbk, hown, hne⟩ := h1
  obtain ⟨ao, cap, rfl⟩ := own_slice hown
  have c0 : w1.cell? ⟨b, 0, none⟩ = some (.pointer (some ⟨b, 0, none⟩)) := by rw [Lib.cell_of_heap hbk]; rfl
  have c1 : w1.cell? ⟨b, 1, none⟩ = some (.slice ao bs.length cap) := by rw [Lib.cell_of_heap hbk]; rfl
  have hlt : b < w1.heap.size := by
    rcases Nat.lt_or_ge b w1.heap.size with h' | h'
    · exact h'
    · simp [Array.getElem?_eq_none h'] at hbk
  go_wp2_with fail
  refine (Tryz.utf8_AppendRune_plain B _ bs.length bs r hr0 hr1 _ hown hlen (by have := hb1.size; omega)).mono ?_
  rintro e w2 ⟨v', rfl, hown', o, hgrow⟩
  have hb2 : w2.heap[b]? = some (.cells #[.pointer (some ⟨b, 0, none⟩), .slice ao bs.length cap] 95 (0, 0)) := by
    rw [hgrow.block b (by simp; omega) (fun e => hne e.symm), Below.heap_alloc w1 _ b hlt]
    exact hbk
  have d0 : w2.cell? ⟨b, 0, none⟩ = some (.pointer (some ⟨b, 0, none⟩)) := by rw [Lib.cell_of_heap hb2]; rfl
  have d1 : w2.cell? ⟨b, 1, none⟩ = some (.slice ao bs.length cap) := by rw [Lib.cell_of_heap hb2]; rfl
  have f1 : w2.frozen? ⟨b, 1, none⟩ = false := Lib.frozen_of_heap hb2 1
  have hfar := own_slice hown'
  obtain ⟨a', cap', rfl⟩ := hfar
  have HO := Lib.hid hown
  have HO' := Lib.hid hown'
  have HN := Lib.hid hne
  clear hown hown' hne
  go_wp2
  go_ret2
  refine ⟨⟨_, rfl⟩, .inr ?_, ?_⟩
  · exact Lib.BuilderAt.put (T := 95) (e := 5) hB hb2 (bs' := bs ++ Lib.runeCells r) (by simpa using HO'.out) (by decide)
  · exact ((hb1.alloc (by have := hb1.size; omega) _).grown hgrow (by have := hb1.size; simp; omega) (fun k hk => (HO.out.lt k hk).1)).setCell (p := ⟨b, 1, none⟩) hB _
end Go.Proofs.YtpepgmccbkkaaaaGreatDoor

/- numfmt's Locale: parted, Write. -/
namespace Go.Proofs.YtpepgmccbkkaaaaGreatDoor
open Go Go.RowKit
set_option maxRecDepth 10000

/-- a locale of the program's, in a block of its own -/
structure LocX (w : World) (g : Nat) (mi po gr fi ne : Int) (ds : List Int) : Prop where
  c2 : w.cell? ⟨g, 2, none⟩ = some (.int .i32 mi)
  c3 : w.cell? ⟨g, 3, none⟩ = some (.int .i32 po)
  c4 : w.cell? ⟨g, 4, none⟩ = some (.int .i32 gr)
  c5 : w.cell? ⟨g, 5, none⟩ = some (.int .i64 fi)
  c6 : w.cell? ⟨g, 6, none⟩ = some (.int .i64 ne)
  len : ds.length = 10
  c7 : ∀ j (h : j < ds.length), w.cell? ⟨g, 7 + j, none⟩ = some (.int .i32 ds[j])

/-- does a group end here? -/
def partB (gr fi ne : Int) (left : Nat) : Bool := gr != 0 && decide (0 < fi) && decide (fi ≤ (left : Int)) && (((left : Int) - fi) % ne == 0)

set_option maxHeartbeats 4000000 in
theorem parted_any (g : Nat) (mi po gr : Int) (fi ne : Nat) (ds : List Int) (left : Nat) (w : World) (h : LocX w g mi po gr fi ne ds) (hl : left ≤ 1000000) (hf : fi ≤ 255) (hn : 0 < fi → 0 < ne) (hn2 : ne ≤ 255) :
    Calls Tryz.prog 44 #[.pointer (some ⟨g, 0, none⟩), .int .i64 left] w fun e w' => e = .returned (.bool (partB gr fi ne left)) ∧ ∃ n, w' = w.drewN n := by
  have c4 := h.c4
  have c5 := h.c5
  have c6 := h.c6
  clear h
  by_cases h1 : (gr != 0) = true
  · by_cases h2 : (0 : Int) < (fi : Int)
    · by_cases h3 : (fi : Int) ≤ (left : Int)
      · have h2n : 0 < fi := by omega
        have h3n : fi ≤ left := by omega
        have hfin : partB gr fi ne left = (((left : Int) - fi) % ne == 0) := by simp [partB, h1, h2n, h3n]
        have HF := Lib.hid hfin
        clear hfin
        have hne : 0 < ne := hn (by omega)
        have hne' : ¬ ((ne : Int) = 0) := by omega
        have hs0 : (0 : Int) ≤ (left : Int) - (fi : Int) := by omega
        go_enter Tryz.func44, Tryz.ntmps44
        go_wp2_with fail
        go_quiet (fail)
        go_wp2
        go_ret
        exact ⟨by rw [HF.out]; rfl, nq, rfl⟩
      · have h2n : 0 < fi := by omega
        have h3n : ¬ fi ≤ left := by omega
        have h3' : (left : Int) < (fi : Int) := by omega
        have hfin : partB gr fi ne left = false := by simp [partB]; omega
        have HF := Lib.hid hfin
        clear hfin
        go_enter Tryz.func44, Tryz.ntmps44
        go_wp2_with fail
        go_quiet (fail)
        go_wp2
        go_ret
        exact ⟨by rw [HF.out]; rfl, nq, rfl⟩
    · have h2n : fi = 0 := by omega
      subst h2n
      clear h2
      have hfin : partB gr (0 : Nat) ne left = false := by simp [partB]
      have HF := Lib.hid hfin
      clear hfin
      go_enter Tryz.func44, Tryz.ntmps44
      go_wp2_with fail
      go_quiet (fail)
      go_wp2
      go_ret
      exact ⟨by rw [HF.out]; rfl, nq, rfl⟩
  · have h1' : (gr != 0) = false := by simpa using h1
    have hfin : partB gr fi ne left = false := by simp [partB, h1']
    have HF := Lib.hid hfin
    clear hfin h1
    go_enter Tryz.func44, Tryz.ntmps44
    go_wp2_with fail
    go_quiet (fail)
    go_wp2
    go_ret
    exact ⟨by rw [HF.out]; rfl, nq, rfl⟩
end Go.Proofs.YtpepgmccbkkaaaaGreatDoor

/- decimal's Int and Frac: slices of the digits. -/
namespace Go.Proofs.YtpepgmccbkkaaaaGreatDoor
open Go Go.RowKit
set_option maxRecDepth 10000

theorem addr_addo (g o j : Nat) : (⟨g, o, none⟩ : Addr).add j = ⟨g, o + j, none⟩ := by
  unfold Addr.add
  split
  · simp_all
  · simp

theorem BytesAt.take {w : World} {a : Option Addr} {l : List Int} (h : BytesAt w a l) (m : Nat) : BytesAt w a (l.take m) := fun j hj => by
  have hj2 : j < l.length := by simp at hj; omega
  obtain ⟨b, hb, hc⟩ := h j hj2
  exact ⟨b, hb, by simpa using hc⟩

theorem BytesAt.drop {w : World} {g : Nat} {l : List Int} (h : BytesAt w (some ⟨g, 0, none⟩) l) (k : Nat) : BytesAt w (some ⟨g, k, none⟩) (l.drop k) := fun j hj => by
  have hj2 : k + j < l.length := by simp at hj; omega
  obtain ⟨b, hb, hc⟩ := h (k + j) hj2
  cases hb
  refine ⟨_, rfl, ?_⟩
  rw [addr_addo]
  rw [addr_add0] at hc
  simpa using hc

set_option maxHeartbeats 1000000 in
theorem int_any (g : Nat) (n cap sc : Nat) (b : Bool) (l : List Int) (w : World) (hl : l.length = n) (hs : sc ≤ n) (hcap : n ≤ cap) (hn : n ≤ 1000000) (hB : BytesAt w (some ⟨g, 0, none⟩) l) :
    Calls Tryz.prog 43 #[.agg #[.bool b, .slice (some ⟨g, 0, none⟩) n cap, .int .i64 sc]] w fun e w' => (∃ ad' cap', e = .returned (.slice ad' (n - sc) cap') ∧ (∀ q, ad' = some q → q.block = g) ∧ BytesAt w' ad' (l.take (n - sc))) ∧ Below w.heap.size w w' := by
  obtain ⟨k, hk⟩ : ∃ k, n = k + sc := ⟨n - sc, by omega⟩
  subst hk
  rw [show k + sc - sc = k from by omega]
  have h0 : (0 : Int) ≤ ((k + sc : Nat) : Int) - (sc : Int) := by omega
  have h1 : ((k + sc : Nat) : Int) - (sc : Int) = (k : Int) := by omega
  have h2 : k ≤ cap := by omega
  go_enter Tryz.func43, Tryz.ntmps43
  go_wp2
  go_ret
  exact ⟨⟨_, _, rfl, (by intro q hq; cases hq; rfl), (hB.alloc _).take k⟩, (Below.refl _ _).alloc (Nat.le_refl _) _⟩

set_option maxHeartbeats 1000000 in
theorem frac_any (g : Nat) (n cap sc : Nat) (b : Bool) (l : List Int) (w : World) (hl : l.length = n) (hs : sc ≤ n) (hcap : n ≤ cap) (hn : n ≤ 1000000) (hB : BytesAt w (some ⟨g, 0, none⟩) l) :
    Calls Tryz.prog 45 #[.agg #[.bool b, .slice (some ⟨g, 0, none⟩) n cap, .int .i64 sc]] w fun e w' => (∃ ad' cap', e = .returned (.slice ad' sc cap') ∧ (∀ q, ad' = some q → q.block = g) ∧ BytesAt w' ad' (l.drop (n - sc))) ∧ Below w.heap.size w w' := by
  obtain ⟨k, hk⟩ : ∃ k, n = k + sc := ⟨n - sc, by omega⟩
  subst hk
  rw [show k + sc - sc = k from by omega]
  have h1 : ((k + sc : Nat) : Int) - (sc : Int) = (k : Int) := by omega
  have h2 : k ≤ cap := by omega
  go_enter Tryz.func45, Tryz.ntmps45
  by_cases hck : cap = k
  · have hz : l.drop k = [] := List.drop_of_length_le (by omega)
    have HZ := Lib.hid hz
    clear hz
    go_wp2
    go_ret
    refine ⟨⟨_, _, rfl, (by intro q hq; cases hq; rfl), ?_⟩, (Below.refl _ _).alloc (Nat.le_refl _) _⟩
    rw [HZ.out]
    intro j hj
    simp at hj
  · go_wp2
    go_ret
    exact ⟨⟨_, _, rfl, (by intro q hq; cases hq; rfl), (hB.alloc _).drop k⟩, (Below.refl _ _).alloc (Nat.le_refl _) _⟩
end Go.Proofs.YtpepgmccbkkaaaaGreatDoor

/- numfmt's Locale.Write: a number as a locale writes it. -/
namespace Go.Proofs.YtpepgmccbkkaaaaGreatDoor
open Go Go.RowKit
set_option maxRecDepth 10000

theorem BytesAt.belowAt {w w' : World} {B : Nat} {a : Option Addr} {l : List Int} (h : BytesAt w a l) (hb : Below B w w') (hq : ∀ q, a = some q → q.block < B) : BytesAt w' a l := fun j hj => by
  obtain ⟨b, hb2, hc⟩ := h j hj
  refine ⟨b, hb2, ?_⟩
  rw [hb.cell (by rw [addr_add]; exact hq b hb2)]
  exact hc

theorem LocX.below {w w' : World} {B g : Nat} {mi po gr fi ne : Int} {ds : List Int} (h : LocX w g mi po gr fi ne ds) (hb : Below B w w') (hg : g < B) : LocX w' g mi po gr fi ne ds where
  c2 := by rw [hb.cell (p := ⟨g, 2, none⟩) hg]; exact h.c2
  c3 := by rw [hb.cell (p := ⟨g, 3, none⟩) hg]; exact h.c3
  c4 := by rw [hb.cell (p := ⟨g, 4, none⟩) hg]; exact h.c4
  c5 := by rw [hb.cell (p := ⟨g, 5, none⟩) hg]; exact h.c5
  c6 := by rw [hb.cell (p := ⟨g, 6, none⟩) hg]; exact h.c6
  len := h.len
  c7 := fun j hj => by rw [hb.cell (p := ⟨g, 7 + j, none⟩) hg]; exact h.c7 j hj

/-- is it a number of 32 bits? -/
abbrev I32 (r : Int) : Prop := -2147483648 ≤ r ∧ r ≤ 2147483647

/-- a digit's sign -/
def digX (ds l : List Int) (i : Nat) : List UInt8 := Lib.encodeRune (ds.getD (l.getD i 0).toNat 0)
/-- the first k digits ahead of the point, with the signs of groups -/
def intX (gr : Int) (fi ne : Nat) (ds l : List Int) (k : Nat) : List UInt8 :=
  (List.range k).flatMap fun i => (if 0 < i && partB gr fi ne (l.length - i) then Lib.encodeRune gr else []) ++ digX ds l i
/-- the first k digits behind the point, with the point -/
def fracX (po : Int) (ds l : List Int) (k : Nat) : List UInt8 :=
  (List.range k).flatMap fun i => (if i == 0 then Lib.encodeRune po else []) ++ digX ds l i
/-- a number as it is written: its digits, so many of them behind the point -/
def writeX (neg : Bool) (l : List Int) (sc : Nat) (mi po gr : Int) (fi ne : Nat) (ds : List Int) : List UInt8 :=
  (if neg then Lib.encodeRune mi else []) ++ intX gr fi ne ds (l.take (l.length - sc)) (l.length - sc) ++ fracX po ds (l.drop (l.length - sc)) sc

theorem intX_succ (gr : Int) (fi ne : Nat) (ds l : List Int) (k : Nat) : intX gr fi ne ds l (k + 1) = intX gr fi ne ds l k ++ ((if 0 < k && partB gr fi ne (l.length - k) then Lib.encodeRune gr else []) ++ digX ds l k) := by
  simp [intX, List.range_succ]
theorem fracX_succ (po : Int) (ds l : List Int) (k : Nat) : fracX po ds l (k + 1) = fracX po ds l k ++ ((if k == 0 then Lib.encodeRune po else []) ++ digX ds l k) := by
  simp [fracX, List.range_succ]

theorem byteCells_append (a b : List UInt8) : Lib.byteCells (a ++ b) = Lib.byteCells a ++ Lib.byteCells b := by simp [Lib.byteCells]

/-- WriteRune onto bytes -/
theorem runeOn (B b : Nat) (acc : List UInt8) (r : Int) (hr : I32 r) (w : World) (h : Lib.IsBuilder 95 5 B b (Lib.byteCells acc) w) (hlen : acc.length ≤ 1000000) (hBw : B ≤ w.heap.size) :
    Calls Tryz.prog 42 #[.pointer (some ⟨b, 0, none⟩), .int .i32 r] w fun e w' => (∃ v, e = .returned v) ∧ Lib.IsBuilder 95 5 B b (Lib.byteCells (acc ++ Lib.encodeRune r)) w' ∧ Below B w w' := by
  rw [byteCells_append, Lib.byteCells_encodeRune]
  exact writeRune_any B b _ r hr.1 hr.2 w h (by simp [Lib.byteCells]; omega) hBw

theorem encR_len (r : Int) : (Lib.encodeRune r).length ≤ 4 := by
  have := (Lib.runeCells_le r).2
  rw [Lib.runeCells_length] at this
  exact this

theorem intX_len (gr : Int) (fi ne : Nat) (ds l : List Int) : ∀ k, (intX gr fi ne ds l k).length ≤ 8 * k
  | 0 => by simp [intX]
  | k + 1 => by
    rw [intX_succ]
    have := intX_len gr fi ne ds l k
    have h1 := encR_len gr
    have h2 : (digX ds l k).length ≤ 4 := encR_len _
    simp only [List.length_append]
    split <;> simp <;> omega
theorem fracX_len (po : Int) (ds l : List Int) : ∀ k, (fracX po ds l k).length ≤ 8 * k
  | 0 => by simp [fracX]
  | k + 1 => by
    rw [fracX_succ]
    have := fracX_len po ds l k
    have h1 := encR_len po
    have h2 : (digX ds l k).length ≤ 4 := encR_len _
    simp only [List.length_append]
    split <;> simp <;> omega

theorem IsBuilder.later {T e : TypeId} {B b : Nat} {bs : List Value} {w w' : World} (h : Lib.IsBuilder T e B b bs w) (hb : Below w.heap.size w w') : Lib.IsBuilder T e B b bs w' := by
  have key : ∀ p, Lib.BuilderAt T e B b p bs w → Lib.BuilderAt T e B b p bs w' := fun p h => by
    have hlt := h.lt
    obtain ⟨h1, v, h2, h3, h4⟩ := h
    exact ⟨h1, v, by rw [hb.block b hlt]; exact h2, own_below h3 hb, h4⟩
  exact h.elim (fun x => .inl (key _ x)) (fun x => .inr (key _ x))

theorem builder_new (w : World) (B : Nat) (hB : B ≤ w.heap.size) : Lib.IsBuilder 95 5 B w.heap.size (Lib.byteCells []) (w.alloc (.cells #[.pointer none, .slice none 0 0] 95)) :=
  .inl ⟨hB, .slice none 0 0, by show (w.heap.push _)[w.heap.size]? = _; simp, World.ownsRow_nil _ _ _ _, by simp [Value.ownBlock]⟩

theorem nat_of_digit {x : Int} (h : 0 ≤ x ∧ x ≤ 9) : ∃ m : Nat, x = (m : Int) ∧ m < 10 := ⟨x.toNat, by omega, by omega⟩

set_option maxHeartbeats 4000000 in
theorem write_any (g gd cap sc n : Nat) (b : Bool) (l : List Int) (mi po gr : Int) (fi ne : Nat) (ds : List Int) (w : World)
    (hX : LocX w g mi po gr fi ne ds) (hg : g < w.heap.size) (hB : BytesAt w (some ⟨gd, 0, none⟩) l) (hgd : gd < w.heap.size) (hl : l.length = n) (hs : sc ≤ n) (hcap : n ≤ cap) (hn : n ≤ 10000)
    (hd : ∀ x ∈ l, 0 ≤ x ∧ x ≤ 9) (h32 : I32 mi ∧ I32 po ∧ I32 gr ∧ ∀ x ∈ ds, I32 x) (hfi : fi ≤ 255) (hne : 0 < fi → 0 < ne) (hne2 : ne ≤ 255) :
    Calls Tryz.prog 28 #[.pointer (some ⟨g, 0, none⟩), .agg #[.bool b, .slice (some ⟨gd, 0, none⟩) n cap, .int .i64 sc]] w fun e w' =>
      e = .returned (strv (writeX b l sc mi po gr fi ne ds)) ∧ Below w.heap.size w w' := by
  have c2 := hX.c2
  have hn0 : ¬ (w.heap.size = g) := by omega
  go_enter Tryz.func28, Tryz.ntmps28
  have hbox : ∀ W : World, W = ((w.alloc (.cells #[.bool b, .slice (some ⟨gd, 0, none⟩) n cap, .int .i64 sc] 65)).alloc (.cells #[.pointer none, .slice none 0 0] 95)) →
      Below w.heap.size w W ∧ W.heap.size = w.heap.size + 2 ∧ W.cell? ⟨w.heap.size, 0, none⟩ = some (.bool b) ∧ W.cell? ⟨w.heap.size, 1, none⟩ = some (.slice (some ⟨gd, 0, none⟩) n cap) ∧ W.cell? ⟨w.heap.size, 2, none⟩ = some (.int .i64 sc) ∧
      Lib.IsBuilder 95 5 (w.heap.size + 1) (w.heap.size + 1) (Lib.byteCells []) W := by
    intro W hW
    subst hW
    refine ⟨((Below.refl _ _).alloc (Nat.le_refl _) _).alloc (by simp) _, by simp, by go_simp, by go_simp, by go_simp, ?_⟩
    have := builder_new (w.alloc (.cells #[.bool b, .slice (some ⟨gd, 0, none⟩) n cap, .int .i64 sc] 65)) (w.heap.size + 1) (by simp)
    simpa using this
  have hmi := h32.1
  have hpo := h32.2.1
  have hgr := h32.2.2.1
  have hds := h32.2.2.2
  obtain ⟨acc0, hacc⟩ : ∃ a : List UInt8, a = if b then Lib.encodeRune mi else [] := ⟨_, rfl⟩
  have HA := Lib.hid hacc
  have hacl : acc0.length ≤ 4 := by rw [hacc]; split; exact encR_len mi; simp
  clear hacc h32
  cases b
  · go_wp2_with fail
    refine calls_gen ?_
    intro W1 hW1
    obtain ⟨hb1, hz1, hc0, hc1, hc2, hbu⟩ := hbox W1 hW1
    have hbu1 : Lib.IsBuilder 95 5 (w.heap.size + 1) (w.heap.size + 1) (Lib.byteCells acc0) W1 := by rw [HA.out]; exact hbu
    clear hW1 hbox hbu
    have hz1' : w.heap.size + 2 ≤ W1.heap.size := by omega
    clear hz1
    have hX1 := hX.below hb1 hg
    have hB1 := hB.belowAt hb1 (by intro q hq; cases hq; exact hgd)
    refine (int_any gd n cap sc _ l _ hl hs hcap (by omega) hB1).mono ?_
    rintro e w2 ⟨⟨a1, cp1, rfl, ha1, hI⟩, hb2⟩
    obtain ⟨nw, hnw⟩ : ∃ k : Nat, k = n - sc := ⟨_, rfl⟩
    obtain ⟨lw, hlw⟩ : ∃ k : List Int, k = l.take nw := ⟨_, rfl⟩
    rw [← hnw] at hI ⊢
    rw [← hlw] at hI
    have hlen : lw.length = nw := by rw [hlw]; simp; omega
    have hdw : ∀ x ∈ lw, 0 ≤ x ∧ x ≤ 9 := fun x hx => hd x (by rw [hlw] at hx; exact List.mem_of_mem_take hx)
    have hbu2 := IsBuilder.later hbu1 hb2
    have hz2 : w.heap.size + 2 ≤ w2.heap.size := by have := hb2.size; omega
    have hb12 : Below w.heap.size w w2 := hb1.trans (hb2.mono (by omega))
    have hd0 : w2.cell? ⟨w.heap.size, 0, none⟩ = some (.bool false) := by rw [hb2.cell (by simp; omega)]; exact hc0
    have hd1 : w2.cell? ⟨w.heap.size, 1, none⟩ = some (.slice (some ⟨gd, 0, none⟩) n cap) := by rw [hb2.cell (by simp; omega)]; exact hc1
    have hd2 : w2.cell? ⟨w.heap.size, 2, none⟩ = some (.int .i64 sc) := by rw [hb2.cell (by simp; omega)]; exact hc2
    clear hc0 hc1 hc2 hbu1 hb1 hB1 hX1 hb2 hz1'
    have HNW := Lib.hid hnw
    have HLW := Lib.hid hlw
    have hnw' : nw ≤ 10000 := by omega
    have HLN := Lib.hid hlen
    have HL := Lib.hid hl
    clear hnw hlw hlen hl
    go_wp2
    go_loopw [22] (fun i wr => ∃ k : Nat, k ≤ nw ∧ i = .int .i64 k ∧ Lib.IsBuilder 95 5 (w.heap.size + 1) (w.heap.size + 1) (Lib.byteCells (acc0 ++ intX gr fi ne ds lw k)) wr ∧ Below (w.heap.size + 1) w2 wr) (fun i _ => nw - (intOf i).toNat)
    case atStart => exact ⟨0, by omega, rfl, by simpa [intX] using hbu2, Below.refl _ _⟩
    case round =>
      obtain ⟨k, hk, rfl, hbu, hbr⟩ := hrel
      have hbw : Below w.heap.size w wr := hb12.trans (hbr.mono (by omega))
      have hXr := hX.below hbw hg
      have hIr := hI.belowAt hbr (by intro q hq; have := ha1 q hq; omega)
      have hzr : w.heap.size + 2 ≤ wr.heap.size := by have := hbr.size; omega
      have hal : (acc0 ++ intX gr fi ne ds lw k).length ≤ 200000 := by have := intX_len gr fi ne ds lw k; simp; omega
      by_cases hlt : k < nw
      · have hklt : k < lw.length := by rw [HLN.out]; exact hlt
        obtain ⟨q, rfl, hcell⟩ := hIr k hklt
        obtain ⟨m, hm, hm10⟩ := nat_of_digit (hdw lw[k] (List.getElem_mem hklt))
        rw [hm] at hcell
        have hmd : m < ds.length := by rw [hXr.len]; exact hm10
        have hdm := hXr.c7 m hmd
        have c4 := hXr.c4
        have hsub : (nw : Int) - (k : Int) = ((nw - k : Nat) : Int) := by omega
        have hstep := intX_succ gr fi ne ds lw k
        have hdig : digX ds lw k = Lib.encodeRune ds[m] := by
          unfold digX
          simp only [List.getD_eq_getElem?_getD, List.getElem?_eq_getElem hklt, Option.getD_some, hm, Int.toNat_natCast, List.getElem?_eq_getElem hmd]
        rw [hdig, HLN.out] at hstep
        have HSTEP := Lib.hid hstep
        have hI32 := hds ds[m] (List.getElem_mem hmd)
        have hxm : (0 : Int) ≤ (m : Int) := by omega
        have hxm10 : m < 10 := hm10
        clear hm hdig hstep
        by_cases hk0 : 0 < k
        · go_wp2_with fail
          refine (parted_any g mi po gr fi ne ds (nw - k) _ hXr (by omega) hfi hne hne2).mono ?_
          rintro e w3 ⟨rfl, nq, rfl⟩
          obtain ⟨pb, hpb⟩ : ∃ p, partB gr fi ne (nw - k) = p := ⟨_, rfl⟩
          rw [hpb]
          have hst := HSTEP.out
          rw [hpb] at hst
          have hk0d : decide (0 < k) = true := by simpa using hk0
          rw [hk0d, Bool.true_and] at hst
          have HST := Lib.hid hst
          have hbuq := IsBuilder.later hbu (below_drewN (Below.refl _ _) nq)
          have hbq := below_drewN (Below.refl (w.heap.size + 1) wr) nq
          have hdq : (wr.drewN nq).cell? ⟨g, 7 + m, none⟩ = some (.int .i32 ds[m]) := hdm
          clear HSTEP hst hk0d hpb
          cases pb
          · go_wp2_with fail
            refine (runeOn _ _ _ _ hI32 _ hbuq (by omega) (by simp; omega)).mono ?_
            rintro e w4 ⟨⟨v, rfl⟩, hbu4, hb4⟩
            have hfin : Lib.IsBuilder 95 5 (w.heap.size + 1) (w.heap.size + 1) (Lib.byteCells (acc0 ++ intX gr fi ne ds lw (k + 1))) w4 := by
              rw [HST.out]; simpa using hbu4
            have hbf := hbr.trans (hbq.trans hb4)
            go_wp2
            go_roundw
            case rel => exact ⟨k + 1, by omega, by go_num, hfin, hbf⟩
            case measure => simp [intOf]; omega
          · go_wp2_with fail
            refine (runeOn _ _ _ _ hgr _ hbuq (by omega) (by simp; omega)).mono ?_
            rintro e w4 ⟨⟨v, rfl⟩, hbu4, hb4⟩
            have hb4s := hb4.size
            have hdm4 : w4.cell? ⟨g, 7 + m, none⟩ = some (.int .i32 ds[m]) := by rw [hb4.cell (by simp; omega)]; exact hdq
            have hal4 : (acc0 ++ intX gr fi ne ds lw k ++ Lib.encodeRune gr).length ≤ 300000 := by have := encR_len gr; rw [List.length_append]; omega
            go_wp2_with fail
            refine (runeOn _ _ _ _ hI32 _ hbu4 (by omega) (by simp at hb4s; omega)).mono ?_
            rintro e w5 ⟨⟨v5, rfl⟩, hbu5, hb5⟩
            have hfin : Lib.IsBuilder 95 5 (w.heap.size + 1) (w.heap.size + 1) (Lib.byteCells (acc0 ++ intX gr fi ne ds lw (k + 1))) w5 := by
              rw [HST.out]; simpa using hbu5
            have hbf := hbr.trans (hbq.trans (hb4.trans hb5))
            go_wp2
            go_roundw
            case rel => exact ⟨k + 1, by omega, by go_num, hfin, hbf⟩
            case measure => simp [intOf]; omega
        · have hk0' : k = 0 := by omega
          subst hk0'
          clear hk0
          have hcell0 : wr.cell? q = some (.int .u8 m) := by rw [show q.add 0 = q from by unfold Addr.add; simp] at hcell; exact hcell
          have hst : intX gr fi ne ds lw 1 = intX gr fi ne ds lw 0 ++ Lib.encodeRune ds[m] := by simpa using HSTEP.out
          have HST := Lib.hid hst
          clear hst hcell HSTEP
          go_wp2_with fail
          refine (runeOn _ _ _ _ hI32 _ hbu (by omega) (by omega)).mono ?_
          rintro e w4 ⟨⟨v, rfl⟩, hbu4, hb4⟩
          have hfin : Lib.IsBuilder 95 5 (w.heap.size + 1) (w.heap.size + 1) (Lib.byteCells (acc0 ++ intX gr fi ne ds lw 1)) w4 := by
            rw [HST.out]; simpa using hbu4
          have hbf := hbr.trans hb4
          go_wp2
          go_roundw
          case rel => exact ⟨1, by omega, by go_num, hfin, hbf⟩
          case measure => simp [intOf]; omega
      · have hk' : k = nw := by omega
        subst hk'
        clear hIr hI hlt
        have he0 : wr.cell? ⟨w.heap.size, 0, none⟩ = some (.bool false) := by rw [hbr.cell (by simp)]; exact hd0
        have he1 : wr.cell? ⟨w.heap.size, 1, none⟩ = some (.slice (some ⟨gd, 0, none⟩) n cap) := by rw [hbr.cell (by simp)]; exact hd1
        have he2 : wr.cell? ⟨w.heap.size, 2, none⟩ = some (.int .i64 sc) := by rw [hbr.cell (by simp)]; exact hd2
        have hBr := hB.belowAt hbw (by intro q hq; cases hq; exact hgd)
        go_wp2_with fail
        refine (frac_any gd n cap sc _ l _ HL.out hs hcap (by omega) hBr).mono ?_
        rintro e w3 ⟨⟨a2, cp2, rfl, ha2, hF⟩, hb3⟩
        rw [← HNW.out] at hF
        obtain ⟨lf, hlf⟩ : ∃ x : List Int, x = l.drop k := ⟨_, rfl⟩
        rw [← hlf] at hF
        have hlen : lf.length = sc := by rw [hlf]; simp; have := HL.out; have := HNW.out; omega
        have hdf : ∀ x ∈ lf, 0 ≤ x ∧ x ≤ 9 := fun x hx => hd x (by rw [hlf] at hx; exact List.mem_of_mem_drop hx)
        have hbu3 := IsBuilder.later hbu hb3
        have hz3 : w.heap.size + 2 ≤ w3.heap.size := by have := hb3.size; omega
        have hb13 : Below w.heap.size w w3 := hbw.trans (hb3.mono (by omega))
        obtain ⟨acc1, hac1⟩ : ∃ x : List UInt8, x = acc0 ++ intX gr fi ne ds lw k := ⟨_, rfl⟩
        rw [← hac1] at hbu3 hal
        have HLF := Lib.hid hlf
        have HFN := Lib.hid hlen
        have HA1 := Lib.hid hac1
        clear hlf hlen hac1 hbu hb3 he0 he1 he2 hd0 hd1 hd2 hbr hbw hXr hzr hBr hbu2 hb12 hz2
        have hsc : sc ≤ 10000 := by omega
        go_wp2
        go_loopw [53] (fun i wr => ∃ k : Nat, k ≤ sc ∧ i = .int .i64 k ∧ Lib.IsBuilder 95 5 (w.heap.size + 1) (w.heap.size + 1) (Lib.byteCells (acc1 ++ fracX po ds lf k)) wr ∧ Below (w.heap.size + 1) w3 wr) (fun i _ => sc - (intOf i).toNat)
        case atStart => exact ⟨0, by omega, rfl, by simpa [fracX] using hbu3, Below.refl _ _⟩
        case round =>
          obtain ⟨j, hj, rfl, hbu, hbr⟩ := hrel
          have hbw : Below w.heap.size w wr := hb13.trans (hbr.mono (by omega))
          have hXr := hX.below hbw hg
          have hFr := hF.belowAt hbr (by intro q hq; have := ha2 q hq; omega)
          have hzr : w.heap.size + 2 ≤ wr.heap.size := by have := hbr.size; omega
          have hal2 : (acc1 ++ fracX po ds lf j).length ≤ 400000 := by have := fracX_len po ds lf j; simp; omega
          by_cases hlt : j < sc
          · have hjlt : j < lf.length := by rw [HFN.out]; exact hlt
            obtain ⟨q, rfl, hcell⟩ := hFr j hjlt
            obtain ⟨m, hm, hm10⟩ := nat_of_digit (hdf lf[j] (List.getElem_mem hjlt))
            rw [hm] at hcell
            have hmd : m < ds.length := by rw [hXr.len]; exact hm10
            have hdm := hXr.c7 m hmd
            have c3 := hXr.c3
            have hstep := fracX_succ po ds lf j
            have hdig : digX ds lf j = Lib.encodeRune ds[m] := by
              unfold digX
              simp only [List.getD_eq_getElem?_getD, List.getElem?_eq_getElem hjlt, Option.getD_some, hm, Int.toNat_natCast, List.getElem?_eq_getElem hmd]
            rw [hdig] at hstep
            have HSTEP := Lib.hid hstep
            have hI32 := hds ds[m] (List.getElem_mem hmd)
            have hxm : (0 : Int) ≤ (m : Int) := by omega
            have hxm10 : m < 10 := hm10
            clear hm hdig hstep
            by_cases hj0 : j = 0
            · subst hj0
              have hcell0 : wr.cell? q = some (.int .u8 m) := by rw [show q.add 0 = q from by unfold Addr.add; simp] at hcell; exact hcell
              have hst : fracX po ds lf 1 = fracX po ds lf 0 ++ (Lib.encodeRune po ++ Lib.encodeRune ds[m]) := by simpa using HSTEP.out
              have HST := Lib.hid hst
              clear hst hcell HSTEP
              go_wp2_with fail
              refine (runeOn _ _ _ _ hpo _ hbu (by omega) (by omega)).mono ?_
              rintro e w4 ⟨⟨v, rfl⟩, hbu4, hb4⟩
              have hb4s := hb4.size
              have hdm4 : w4.cell? ⟨g, 7 + m, none⟩ = some (.int .i32 ds[m]) := by rw [hb4.cell (by simp; omega)]; exact hdm
              have hal4 : (acc1 ++ fracX po ds lf 0 ++ Lib.encodeRune po).length ≤ 500000 := by have := encR_len po; rw [List.length_append]; omega
              go_wp2_with fail
              refine (runeOn _ _ _ _ hI32 _ hbu4 (by omega) (by omega)).mono ?_
              rintro e w5 ⟨⟨v5, rfl⟩, hbu5, hb5⟩
              have hfin : Lib.IsBuilder 95 5 (w.heap.size + 1) (w.heap.size + 1) (Lib.byteCells (acc1 ++ fracX po ds lf 1)) w5 := by
                rw [HST.out]; simpa using hbu5
              have hbf := hbr.trans (hb4.trans hb5)
              go_wp2
              go_roundw
              case rel => exact ⟨1, by omega, by go_num, hfin, hbf⟩
              case measure => simp [intOf]; omega
            · have hj0' : ((j : Int) == 0) = false := by simpa using hj0
              have hst : fracX po ds lf (j + 1) = fracX po ds lf j ++ Lib.encodeRune ds[m] := by
                have := HSTEP.out
                rw [show (j == 0) = false from by simpa using hj0] at this
                simpa using this
              have HST := Lib.hid hst
              clear hst HSTEP
              go_wp2_with fail
              refine (runeOn _ _ _ _ hI32 _ hbu (by omega) (by omega)).mono ?_
              rintro e w4 ⟨⟨v, rfl⟩, hbu4, hb4⟩
              have hfin : Lib.IsBuilder 95 5 (w.heap.size + 1) (w.heap.size + 1) (Lib.byteCells (acc1 ++ fracX po ds lf (j + 1))) w4 := by
                rw [HST.out]; simpa using hbu4
              have hbf := hbr.trans hb4
              go_wp2
              go_roundw
              case rel => exact ⟨j + 1, by omega, by go_num, hfin, hbf⟩
              case measure => simp [intOf]; omega
          · have hj' : j = sc := by omega
            subst hj'
            clear hFr hF hlt
            have hfin : acc1 ++ fracX po ds lf j = writeX false l j mi po gr fi ne ds := by
              have e1 := HA1.out
              have e2 := HA.out
              have e3 := HNW.out
              have e4 := HLW.out
              have e5 := HLF.out
              have e6 := HL.out
              subst e1 e2 e4 e5 e6
              unfold writeX
              rw [← e3]
              try simp
            have HFIN := Lib.hid hfin
            clear hfin
            go_wp2_with fail
            refine (Tryz.Builder_String_any _ _ _ _ hbu (by omega)).mono ?_
            rintro e w5 ⟨rfl, hb5⟩
            go_wp2
            go_ret
            exact ⟨by rw [← HFIN.out]; rfl, hbw.trans (hb5.mono (by omega))⟩
  · go_wp2_with fail
    refine calls_gen ?_
    intro W0 hW0
    obtain ⟨hb0, hz0, hc0', hc1', hc2', hbu⟩ := hbox W0 hW0
    clear hW0 hbox
    refine (runeOn _ _ _ _ hmi _ hbu (by simp) (by omega)).mono ?_
    rintro e W1 ⟨⟨v, rfl⟩, hbu1', hbw⟩
    have hbu1 : Lib.IsBuilder 95 5 (w.heap.size + 1) (w.heap.size + 1) (Lib.byteCells acc0) W1 := by rw [HA.out]; exact hbu1'
    have hb1 : Below w.heap.size w W1 := hb0.trans (hbw.mono (by omega))
    have hz1' : w.heap.size + 2 ≤ W1.heap.size := by have := hbw.size; omega
    have hc0 : W1.cell? ⟨w.heap.size, 0, none⟩ = some (.bool true) := by rw [hbw.cell (by simp)]; exact hc0'
    have hc1 : W1.cell? ⟨w.heap.size, 1, none⟩ = some (.slice (some ⟨gd, 0, none⟩) n cap) := by rw [hbw.cell (by simp)]; exact hc1'
    have hc2 : W1.cell? ⟨w.heap.size, 2, none⟩ = some (.int .i64 sc) := by rw [hbw.cell (by simp)]; exact hc2'
    clear hb0 hz0 hc0' hc1' hc2' hbu hbu1' hbw
    go_wp2_with fail
    have hX1 := hX.below hb1 hg
    have hB1 := hB.belowAt hb1 (by intro q hq; cases hq; exact hgd)
    refine (int_any gd n cap sc _ l _ hl hs hcap (by omega) hB1).mono ?_
    rintro e w2 ⟨⟨a1, cp1, rfl, ha1, hI⟩, hb2⟩
    obtain ⟨nw, hnw⟩ : ∃ k : Nat, k = n - sc := ⟨_, rfl⟩
    obtain ⟨lw, hlw⟩ : ∃ k : List Int, k = l.take nw := ⟨_, rfl⟩
    rw [← hnw] at hI ⊢
    rw [← hlw] at hI
    have hlen : lw.length = nw := by rw [hlw]; simp; omega
    have hdw : ∀ x ∈ lw, 0 ≤ x ∧ x ≤ 9 := fun x hx => hd x (by rw [hlw] at hx; exact List.mem_of_mem_take hx)
    have hbu2 := IsBuilder.later hbu1 hb2
    have hz2 : w.heap.size + 2 ≤ w2.heap.size := by have := hb2.size; omega
    have hb12 : Below w.heap.size w w2 := hb1.trans (hb2.mono (by omega))
    have hd0 : w2.cell? ⟨w.heap.size, 0, none⟩ = some (.bool true) := by rw [hb2.cell (by simp; omega)]; exact hc0
    have hd1 : w2.cell? ⟨w.heap.size, 1, none⟩ = some (.slice (some ⟨gd, 0, none⟩) n cap) := by rw [hb2.cell (by simp; omega)]; exact hc1
    have hd2 : w2.cell? ⟨w.heap.size, 2, none⟩ = some (.int .i64 sc) := by rw [hb2.cell (by simp; omega)]; exact hc2
    clear hc0 hc1 hc2 hbu1 hb1 hB1 hX1 hb2 hz1'
    have HNW := Lib.hid hnw
    have HLW := Lib.hid hlw
    have hnw' : nw ≤ 10000 := by omega
    have HLN := Lib.hid hlen
    have HL := Lib.hid hl
    clear hnw hlw hlen hl
    go_wp2
    go_loopw [22] (fun i wr => ∃ k : Nat, k ≤ nw ∧ i = .int .i64 k ∧ Lib.IsBuilder 95 5 (w.heap.size + 1) (w.heap.size + 1) (Lib.byteCells (acc0 ++ intX gr fi ne ds lw k)) wr ∧ Below (w.heap.size + 1) w2 wr) (fun i _ => nw - (intOf i).toNat)
    case atStart => exact ⟨0, by omega, rfl, by simpa [intX] using hbu2, Below.refl _ _⟩
    case round =>
      obtain ⟨k, hk, rfl, hbu, hbr⟩ := hrel
      have hbw : Below w.heap.size w wr := hb12.trans (hbr.mono (by omega))
      have hXr := hX.below hbw hg
      have hIr := hI.belowAt hbr (by intro q hq; have := ha1 q hq; omega)
      have hzr : w.heap.size + 2 ≤ wr.heap.size := by have := hbr.size; omega
      have hal : (acc0 ++ intX gr fi ne ds lw k).length ≤ 200000 := by have := intX_len gr fi ne ds lw k; simp; omega
      by_cases hlt : k < nw
      · have hklt : k < lw.length := by rw [HLN.out]; exact hlt
        obtain ⟨q, rfl, hcell⟩ := hIr k hklt
        obtain ⟨m, hm, hm10⟩ := nat_of_digit (hdw lw[k] (List.getElem_mem hklt))
        rw [hm] at hcell
        have hmd : m < ds.length := by rw [hXr.len]; exact hm10
        have hdm := hXr.c7 m hmd
        have c4 := hXr.c4
        have hsub : (nw : Int) - (k : Int) = ((nw - k : Nat) : Int) := by omega
        have hstep := intX_succ gr fi ne ds lw k
        have hdig : digX ds lw k = Lib.encodeRune ds[m] := by
          unfold digX
          simp only [List.getD_eq_getElem?_getD, List.getElem?_eq_getElem hklt, Option.getD_some, hm, Int.toNat_natCast, List.getElem?_eq_getElem hmd]
        rw [hdig, HLN.out] at hstep
        have HSTEP := Lib.hid hstep
        have hI32 := hds ds[m] (List.getElem_mem hmd)
        have hxm : (0 : Int) ≤ (m : Int) := by omega
        have hxm10 : m < 10 := hm10
        clear hm hdig hstep
        by_cases hk0 : 0 < k
        · go_wp2_with fail
          refine (parted_any g mi po gr fi ne ds (nw - k) _ hXr (by omega) hfi hne hne2).mono ?_
          rintro e w3 ⟨rfl, nq, rfl⟩
          obtain ⟨pb, hpb⟩ : ∃ p, partB gr fi ne (nw - k) = p := ⟨_, rfl⟩
          rw [hpb]
          have hst := HSTEP.out
          rw [hpb] at hst
          have hk0d : decide (0 < k) = true := by simpa using hk0
          rw [hk0d, Bool.true_and] at hst
          have HST := Lib.hid hst
          have hbuq := IsBuilder.later hbu (below_drewN (Below.refl _ _) nq)
          have hbq := below_drewN (Below.refl (w.heap.size + 1) wr) nq
          have hdq : (wr.drewN nq).cell? ⟨g, 7 + m, none⟩ = some (.int .i32 ds[m]) := hdm
          clear HSTEP hst hk0d hpb
          cases pb
          · go_wp2_with fail
            refine (runeOn _ _ _ _ hI32 _ hbuq (by omega) (by simp; omega)).mono ?_
            rintro e w4 ⟨⟨v, rfl⟩, hbu4, hb4⟩
            have hfin : Lib.IsBuilder 95 5 (w.heap.size + 1) (w.heap.size + 1) (Lib.byteCells (acc0 ++ intX gr fi ne ds lw (k + 1))) w4 := by
              rw [HST.out]; simpa using hbu4
            have hbf := hbr.trans (hbq.trans hb4)
            go_wp2
            go_roundw
            case rel => exact ⟨k + 1, by omega, by go_num, hfin, hbf⟩
            case measure => simp [intOf]; omega
          · go_wp2_with fail
            refine (runeOn _ _ _ _ hgr _ hbuq (by omega) (by simp; omega)).mono ?_
            rintro e w4 ⟨⟨v, rfl⟩, hbu4, hb4⟩
            have hb4s := hb4.size
            have hdm4 : w4.cell? ⟨g, 7 + m, none⟩ = some (.int .i32 ds[m]) := by rw [hb4.cell (by simp; omega)]; exact hdq
            have hal4 : (acc0 ++ intX gr fi ne ds lw k ++ Lib.encodeRune gr).length ≤ 300000 := by have := encR_len gr; rw [List.length_append]; omega
            go_wp2_with fail
            refine (runeOn _ _ _ _ hI32 _ hbu4 (by omega) (by simp at hb4s; omega)).mono ?_
            rintro e w5 ⟨⟨v5, rfl⟩, hbu5, hb5⟩
            have hfin : Lib.IsBuilder 95 5 (w.heap.size + 1) (w.heap.size + 1) (Lib.byteCells (acc0 ++ intX gr fi ne ds lw (k + 1))) w5 := by
              rw [HST.out]; simpa using hbu5
            have hbf := hbr.trans (hbq.trans (hb4.trans hb5))
            go_wp2
            go_roundw
            case rel => exact ⟨k + 1, by omega, by go_num, hfin, hbf⟩
            case measure => simp [intOf]; omega
        · have hk0' : k = 0 := by omega
          subst hk0'
          clear hk0
          have hcell0 : wr.cell? q = some (.int .u8 m) := by rw [show q.add 0 = q from by unfold Addr.add; simp] at hcell; exact hcell
          have hst : intX gr fi ne ds lw 1 = intX gr fi ne ds lw 0 ++ Lib.encodeRune ds[m] := by simpa using HSTEP.out
          have HST := Lib.hid hst
          clear hst hcell HSTEP
          go_wp2_with fail
          refine (runeOn _ _ _ _ hI32 _ hbu (by omega) (by omega)).mono ?_
          rintro e w4 ⟨⟨v, rfl⟩, hbu4, hb4⟩
          have hfin : Lib.IsBuilder 95 5 (w.heap.size + 1) (w.heap.size + 1) (Lib.byteCells (acc0 ++ intX gr fi ne ds lw 1)) w4 := by
            rw [HST.out]; simpa using hbu4
          have hbf := hbr.trans hb4
          go_wp2
          go_roundw
          case rel => exact ⟨1, by omega, by go_num, hfin, hbf⟩
          case measure => simp [intOf]; omega
      · have hk' : k = nw := by omega
        subst hk'
        clear hIr hI hlt
        have he0 : wr.cell? ⟨w.heap.size, 0, none⟩ = some (.bool true) := by rw [hbr.cell (by simp)]; exact hd0
        have he1 : wr.cell? ⟨w.heap.size, 1, none⟩ = some (.slice (some ⟨gd, 0, none⟩) n cap) := by rw [hbr.cell (by simp)]; exact hd1
        have he2 : wr.cell? ⟨w.heap.size, 2, none⟩ = some (.int .i64 sc) := by rw [hbr.cell (by simp)]; exact hd2
        have hBr := hB.belowAt hbw (by intro q hq; cases hq; exact hgd)
        go_wp2_with fail
        refine (frac_any gd n cap sc _ l _ HL.out hs hcap (by omega) hBr).mono ?_
        rintro e w3 ⟨⟨a2, cp2, rfl, ha2, hF⟩, hb3⟩
        rw [← HNW.out] at hF
        obtain ⟨lf, hlf⟩ : ∃ x : List Int, x = l.drop k := ⟨_, rfl⟩
        rw [← hlf] at hF
        have hlen : lf.length = sc := by rw [hlf]; simp; have := HL.out; have := HNW.out; omega
        have hdf : ∀ x ∈ lf, 0 ≤ x ∧ x ≤ 9 := fun x hx => hd x (by rw [hlf] at hx; exact List.mem_of_mem_drop hx)
        have hbu3 := IsBuilder.later hbu hb3
        have hz3 : w.heap.size + 2 ≤ w3.heap.size := by have := hb3.size; omega
        have hb13 : Below w.heap.size w w3 := hbw.trans (hb3.mono (by omega))
        obtain ⟨acc1, hac1⟩ : ∃ x : List UInt8, x = acc0 ++ intX gr fi ne ds lw k := ⟨_, rfl⟩
        rw [← hac1] at hbu3 hal
        have HLF := Lib.hid hlf
        have HFN := Lib.hid hlen
        have HA1 := Lib.hid hac1
        clear hlf hlen hac1 hbu hb3 he0 he1 he2 hd0 hd1 hd2 hbr hbw hXr hzr hBr hbu2 hb12 hz2
        have hsc : sc ≤ 10000 := by omega
        go_wp2
        go_loopw [53] (fun i wr => ∃ k : Nat, k ≤ sc ∧ i = .int .i64 k ∧ Lib.IsBuilder 95 5 (w.heap.size + 1) (w.heap.size + 1) (Lib.byteCells (acc1 ++ fracX po ds lf k)) wr ∧ Below (w.heap.size + 1) w3 wr) (fun i _ => sc - (intOf i).toNat)
        case atStart => exact ⟨0, by omega, rfl, by simpa [fracX] using hbu3, Below.refl _ _⟩
        case round =>
          obtain ⟨j, hj, rfl, hbu, hbr⟩ := hrel
          have hbw : Below w.heap.size w wr := hb13.trans (hbr.mono (by omega))
          have hXr := hX.below hbw hg
          have hFr := hF.belowAt hbr (by intro q hq; have := ha2 q hq; omega)
          have hzr : w.heap.size + 2 ≤ wr.heap.size := by have := hbr.size; omega
          have hal2 : (acc1 ++ fracX po ds lf j).length ≤ 400000 := by have := fracX_len po ds lf j; simp; omega
          by_cases hlt : j < sc
          · have hjlt : j < lf.length := by rw [HFN.out]; exact hlt
            obtain ⟨q, rfl, hcell⟩ := hFr j hjlt
            obtain ⟨m, hm, hm10⟩ := nat_of_digit (hdf lf[j] (List.getElem_mem hjlt))
            rw [hm] at hcell
            have hmd : m < ds.length := by rw [hXr.len]; exact hm10
            have hdm := hXr.c7 m hmd
            have c3 := hXr.c3
            have hstep := fracX_succ po ds lf j
            have hdig : digX ds lf j = Lib.encodeRune ds[m] := by
              unfold digX
              simp only [List.getD_eq_getElem?_getD, List.getElem?_eq_getElem hjlt, Option.getD_some, hm, Int.toNat_natCast, List.getElem?_eq_getElem hmd]
            rw [hdig] at hstep
            have HSTEP := Lib.hid hstep
            have hI32 := hds ds[m] (List.getElem_mem hmd)
            have hxm : (0 : Int) ≤ (m : Int) := by omega
            have hxm10 : m < 10 := hm10
            clear hm hdig hstep
            by_cases hj0 : j = 0
            · subst hj0
              have hcell0 : wr.cell? q = some (.int .u8 m) := by rw [show q.add 0 = q from by unfold Addr.add; simp] at hcell; exact hcell
              have hst : fracX po ds lf 1 = fracX po ds lf 0 ++ (Lib.encodeRune po ++ Lib.encodeRune ds[m]) := by simpa using HSTEP.out
              have HST := Lib.hid hst
              clear hst hcell HSTEP
              go_wp2_with fail
              refine (runeOn _ _ _ _ hpo _ hbu (by omega) (by omega)).mono ?_
              rintro e w4 ⟨⟨v, rfl⟩, hbu4, hb4⟩
              have hb4s := hb4.size
              have hdm4 : w4.cell? ⟨g, 7 + m, none⟩ = some (.int .i32 ds[m]) := by rw [hb4.cell (by simp; omega)]; exact hdm
              have hal4 : (acc1 ++ fracX po ds lf 0 ++ Lib.encodeRune po).length ≤ 500000 := by have := encR_len po; rw [List.length_append]; omega
              go_wp2_with fail
              refine (runeOn _ _ _ _ hI32 _ hbu4 (by omega) (by omega)).mono ?_
              rintro e w5 ⟨⟨v5, rfl⟩, hbu5, hb5⟩
              have hfin : Lib.IsBuilder 95 5 (w.heap.size + 1) (w.heap.size + 1) (Lib.byteCells (acc1 ++ fracX po ds lf 1)) w5 := by
                rw [HST.out]; simpa using hbu5
              have hbf := hbr.trans (hb4.trans hb5)
              go_wp2
              go_roundw
              case rel => exact ⟨1, by omega, by go_num, hfin, hbf⟩
              case measure => simp [intOf]; omega
            · have hj0' : ((j : Int) == 0) = false := by simpa using hj0
              have hst : fracX po ds lf (j + 1) = fracX po ds lf j ++ Lib.encodeRune ds[m] := by
                have := HSTEP.out
                rw [show (j == 0) = false from by simpa using hj0] at this
                simpa using this
              have HST := Lib.hid hst
              clear hst HSTEP
              go_wp2_with fail
              refine (runeOn _ _ _ _ hI32 _ hbu (by omega) (by omega)).mono ?_
              rintro e w4 ⟨⟨v, rfl⟩, hbu4, hb4⟩
              have hfin : Lib.IsBuilder 95 5 (w.heap.size + 1) (w.heap.size + 1) (Lib.byteCells (acc1 ++ fracX po ds lf (j + 1))) w4 := by
                rw [HST.out]; simpa using hbu4
              have hbf := hbr.trans hb4
              go_wp2
              go_roundw
              case rel => exact ⟨j + 1, by omega, by go_num, hfin, hbf⟩
              case measure => simp [intOf]; omega
          · have hj' : j = sc := by omega
            subst hj'
            clear hFr hF hlt
            have hfin : acc1 ++ fracX po ds lf j = writeX true l j mi po gr fi ne ds := by
              have e1 := HA1.out
              have e2 := HA.out
              have e3 := HNW.out
              have e4 := HLW.out
              have e5 := HLF.out
              have e6 := HL.out
              subst e1 e2 e4 e5 e6
              unfold writeX
              rw [← e3]
              try simp
            have HFIN := Lib.hid hfin
            clear hfin
            go_wp2_with fail
            refine (Tryz.Builder_String_any _ _ _ _ hbu (by omega)).mono ?_
            rintro e w5 ⟨rfl, hb5⟩
            go_wp2
            go_ret
            exact ⟨by rw [← HFIN.out]; rfl, hbw.trans (hb5.mono (by omega))⟩
end Go.Proofs.YtpepgmccbkkaaaaGreatDoor

/- Walks of phrasesref's functions on code points. -/
namespace Go.Proofs.YtpepgmccbkkaaaaGreatDoor
open Go Go.RowKit
set_option maxRecDepth 10000

/-- a code point? -/
def isPt (r : Int) : Bool := decide (0 ≤ r ∧ r ≤ 0x10FFFF ∧ (r < 0xD800 ∨ 0xDFFF < r))

set_option maxHeartbeats 400000 in
theorem point_any (r : Int) (w : World) :
    Calls Tryz.prog 20 #[.int .i32 r] w fun e w' => e = .returned (.bool (isPt r)) ∧ w = w' := by
  by_cases h : isPt r = true
  · have h' := h
    simp only [isPt, decide_eq_true_eq] at h'
    obtain ⟨h1, h2, h3⟩ := h'
    rcases h3 with h3 | h3
    all_goals
      go_enter Tryz.func20, Tryz.ntmps20
      go_wp2
      go_ret
      refine ⟨ret_val ?_, rfl⟩; simp [*]
  · have h' : isPt r = false := by simpa using h
    have h2 : r < 0 ∨ 0x10FFFF < r ∨ (0xD800 ≤ r ∧ r ≤ 0xDFFF) := by
      simp only [isPt, decide_eq_true_eq] at h; omega
    clear h
    rcases h2 with h2 | h2 | ⟨h2, h3⟩
    · go_enter Tryz.func20, Tryz.ntmps20
      go_wp2
      go_ret
      refine ⟨ret_val ?_, rfl⟩; simp [*]
    · go_enter Tryz.func20, Tryz.ntmps20
      have h0 : 0 ≤ r := by omega
      go_wp2
      go_ret
      refine ⟨ret_val ?_, rfl⟩; simp [*]
    · go_enter Tryz.func20, Tryz.ntmps20
      have h0 : 0 ≤ r := by omega
      have h1 : r ≤ 0x10FFFF := by omega
      go_wp2
      go_ret
      refine ⟨ret_val ?_, rfl⟩; simp [*]

/-- the value of the bytes that follow the first -/
def ptVal (l : List UInt8) (v : Nat) : Nat := l.foldl (fun v c => 64 * v + (c.toNat - 128)) v

def isCont (c : UInt8) : Bool := 128 ≤ c && c ≤ 191

/-- the least number that n bytes may spell -/
def least (n : Nat) : Int := if n = 4 then 65536 else if n = 3 then 2048 else if n = 2 then 128 else 0

/-- size, by what its first byte says: how many bytes, the first one's part -/
def sizeBy (l : List UInt8) (n v : Nat) : Nat :=
  if l.length < n then 0 else if (l.tail.take (n - 1)).all isCont = false then 0
  else if (ptVal (l.tail.take (n - 1)) v : Int) < least n ∨ isPt (ptVal (l.tail.take (n - 1)) v) = false then 0 else n

def sizeL (l : List UInt8) : Nat :=
  let c := (l.headD 0).toNat
  if 240 ≤ c ∧ c < 248 then sizeBy l 4 (c - 240)
  else if 224 ≤ c ∧ c < 240 then sizeBy l 3 (c - 224)
  else if 192 ≤ c ∧ c < 224 then sizeBy l 2 (c - 192)
  else if 128 ≤ c then 0
  else sizeBy l 1 c

theorem isCont_iff (c : UInt8) : isCont c = true ↔ (128 : Int) ≤ (c.toNat : Int) ∧ (c.toNat : Int) ≤ 191 := by
  simp [isCont, UInt8.le_iff_toNat_le]; omega

/-- the first k - 1 bytes behind the first -/
theorem tail_snoc (s : ByteArray) (k : Nat) (h1 : 1 ≤ k) (h : k < s.size) : s.data.toList.tail.take k = s.data.toList.tail.take (k - 1) ++ [s[k]] := by
  obtain ⟨j, rfl⟩ : ∃ j, k = j + 1 := ⟨k - 1, by omega⟩
  rw [List.take_succ_eq_append_getElem (by simp; omega)]
  simp [← getElem_toList s (j + 1) h]

theorem ptVal_snoc (l : List UInt8) (c : UInt8) (v : Nat) : ptVal (l ++ [c]) v = 64 * ptVal l v + (c.toNat - 128) := by simp [ptVal]

theorem ptVal_lt (l : List UInt8) : ∀ (v : Nat), l.all isCont = true → ptVal l v < 64 ^ l.length * (v + 1) := by
  induction l with
  | nil => intro v _; simp [ptVal]
  | cons a l ih =>
    intro v h
    simp only [List.all_cons, Bool.and_eq_true] at h
    have ha := (isCont_iff a).1 h.1
    have := ih (64 * v + (a.toNat - 128)) h.2
    have e : ptVal (a :: l) v = ptVal l (64 * v + (a.toNat - 128)) := rfl
    rw [e]
    refine Nat.lt_of_lt_of_le this ?_
    rw [List.length_cons, Nat.pow_succ, Nat.mul_assoc]
    exact Nat.mul_le_mul_left _ (by omega)

theorem sizeL_of {l : List UInt8} {n v : Nat} (H : (240 ≤ (l.headD 0).toNat ∧ (l.headD 0).toNat < 248 ∧ n = 4 ∧ v = (l.headD 0).toNat - 240) ∨
    (224 ≤ (l.headD 0).toNat ∧ (l.headD 0).toNat < 240 ∧ n = 3 ∧ v = (l.headD 0).toNat - 224) ∨
    (192 ≤ (l.headD 0).toNat ∧ (l.headD 0).toNat < 224 ∧ n = 2 ∧ v = (l.headD 0).toNat - 192) ∨
    ((l.headD 0).toNat < 128 ∧ n = 1 ∧ v = (l.headD 0).toNat)) : sizeL l = sizeBy l n v := by
  unfold sizeL
  rcases H with ⟨h1, h2, rfl, rfl⟩ | ⟨h1, h2, rfl, rfl⟩ | ⟨h1, h2, rfl, rfl⟩ | ⟨h1, rfl, rfl⟩
  · rw [if_pos ⟨h1, h2⟩]
  · rw [if_neg (by omega), if_pos ⟨h1, h2⟩]
  · rw [if_neg (by omega), if_neg (by omega), if_pos ⟨h1, h2⟩]
  · rw [if_neg (by omega), if_neg (by omega), if_neg (by omega), if_neg (by omega)]

theorem sizeBy_short {l : List UInt8} {n v : Nat} (h : l.length < n) : sizeBy l n v = 0 := by rw [sizeBy, if_pos h]
theorem sizeBy_cont {l : List UInt8} {n v : Nat} (h : (l.tail.take (n - 1)).all isCont = false) : sizeBy l n v = 0 := by
  unfold sizeBy; rw [if_pos h]; simp
theorem sizeBy_end {l : List UInt8} {n v : Nat} (h0 : ¬ l.length < n) (h : (l.tail.take (n - 1)).all isCont = true) :
    sizeBy l n v = if (ptVal (l.tail.take (n - 1)) v : Int) < least n ∨ isPt (ptVal (l.tail.take (n - 1)) v) = false then 0 else n := by
  unfold sizeBy; rw [if_neg h0, if_neg (by rw [h]; simp)]

theorem cont_false_of (s : ByteArray) (k n : Nat) (h1 : 1 ≤ k) (hk : k < n) (hn : n ≤ s.size) (hc : isCont s[k] = false) : (s.data.toList.tail.take (n - 1)).all isCont = false := by
  rw [List.all_eq_false]
  refine ⟨s[k], ?_, by simp [hc]⟩
  rw [← getElem_toList s k (by omega), List.mem_take_iff_getElem]
  refine ⟨k - 1, by simp; omega, ?_⟩
  simp only [List.getElem_tail]
  congr 1; omega

end Go.Proofs.YtpepgmccbkkaaaaGreatDoor

/- The walk of phrasesref.size. -/
namespace Go.Proofs.YtpepgmccbkkaaaaGreatDoor
open Go Go.RowKit
set_option maxRecDepth 10000

set_option maxRecDepth 100000 in
set_option maxHeartbeats 1000000 in
theorem size_any (s : ByteArray) (w : World) (h0 : 0 < s.size) (hs : s.size ≤ 2000000000) :
    Calls Tryz.prog 33 #[.string s] w fun e w' => e = .returned (.int .i64 (sizeL s.data.toList)) ∧ w = w' := by
  have hh := headD_eq s h0
  have hb : s[0].toNat < 256 := UInt8.toNat_lt _
  by_cases hbad : 128 ≤ s[0].toNat ∧ (s[0].toNat < 192 ∨ 248 ≤ s[0].toNat)
  · have hz : sizeL s.data.toList = 0 := by
      unfold sizeL; rw [hh, if_neg (by omega), if_neg (by omega), if_neg (by omega), if_pos (by omega)]
    have Hz := Lib.hid hz
    have Hh := Lib.hid hh
    clear hz hh
    obtain ⟨hb1, hb2⟩ := hbad
    rcases hb2 with hb2 | hb2
    all_goals
      go_enter Tryz.func33, Tryz.ntmps33
      go_wp2
      go_ret
      rw [Hz.out]
      exact ⟨rfl, rfl⟩
  · obtain ⟨n, v, H⟩ : ∃ n v, (240 ≤ s[0].toNat ∧ s[0].toNat < 248 ∧ n = 4 ∧ v = s[0].toNat - 240) ∨
      (224 ≤ s[0].toNat ∧ s[0].toNat < 240 ∧ n = 3 ∧ v = s[0].toNat - 224) ∨
      (192 ≤ s[0].toNat ∧ s[0].toNat < 224 ∧ n = 2 ∧ v = s[0].toNat - 192) ∨
      (s[0].toNat < 128 ∧ n = 1 ∧ v = s[0].toNat) := by
      by_cases c1 : 240 ≤ s[0].toNat
      · exact ⟨_, _, .inl ⟨by omega, by omega, rfl, rfl⟩⟩
      by_cases c2 : 224 ≤ s[0].toNat
      · exact ⟨_, _, .inr (.inl ⟨by omega, by omega, rfl, rfl⟩)⟩
      by_cases c3 : 192 ≤ s[0].toNat
      · exact ⟨_, _, .inr (.inr (.inl ⟨by omega, by omega, rfl, rfl⟩))⟩
      · exact ⟨_, _, .inr (.inr (.inr ⟨by omega, rfl, rfl⟩))⟩
    have hz : sizeL s.data.toList = sizeBy s.data.toList n v := sizeL_of (by rw [hh]; exact H)
    have Hz := Lib.hid hz
    have Hh := Lib.hid hh
    clear hz hh hbad
    have hn : 1 ≤ n ∧ n ≤ 4 ∧ v ≤ 127 := by omega
    rcases H with ⟨h1, h2, rfl, hv⟩ | ⟨h1, h2, rfl, hv⟩ | ⟨h1, h2, rfl, hv⟩ | ⟨h1, rfl, hv⟩
    · have hv' : (v : Int) = (s[0].toNat : Int) - 240 := by omega
      have hvlt : v ≤ 127 := hn.2.2
      have i1 : (240 : Int) ≤ (s[0].toNat : Int) := by omega
      have i2 : (s[0].toNat : Int) < 248 := by omega
      have Hv := Lib.hid hv'
      clear hv hv' hn
      by_cases hsh : s.size < 4
      · have hz2 := Lib.hid (sizeBy_short (l := s.data.toList) (n := 4) (v := v) (by simpa using hsh))
        go_enter Tryz.func33, Tryz.ntmps33
        go_wp2
        go_ret
        rw [Hz.out, hz2.out]
        exact ⟨rfl, rfl⟩
      · have i3 : (4 : Int) ≤ (s.size : Int) := by omega
        go_enter Tryz.func33, Tryz.ntmps33
        go_wp2
        go_loop [5, 7] (fun x i => ∃ k : Nat, 1 ≤ k ∧ k ≤ 4 ∧ i = .int .i64 k ∧ x = .int .i64 (ptVal (s.data.toList.tail.take (k - 1)) v) ∧ (s.data.toList.tail.take (k - 1)).all isCont = true) (fun _ i => 4 - (intOf i).toNat)
        case atStart => exact ⟨1, by omega, by omega, rfl, by rw [← Hv.out]; rfl, by simp⟩
        case round =>
          obtain ⟨k, hk1, hk2, rfl, rfl, hall⟩ := hrel
          have hbd := ptVal_lt _ v hall
          have hlen : (s.data.toList.tail.take (k - 1)).length ≤ 3 := by simp; omega
          have hbd2 : ptVal (s.data.toList.tail.take (k - 1)) v ≤ 64 ^ 3 * 128 := Nat.le_of_lt (Nat.lt_of_lt_of_le hbd (Nat.mul_le_mul (Nat.pow_le_pow_right (by omega) hlen) (by omega)))
          clear hbd hlen
          by_cases hlt : k < 4
          · by_cases hc : isCont s[k] = true
            · have hc' := (isCont_iff _).1 hc
              have hs1 := tail_snoc s k hk1 (by omega)
              have hall' := all_snoc hall hc
              have hpv := ptVal_snoc (s.data.toList.tail.take (k - 1)) s[k] v
              rw [← hs1] at hall' hpv
              have Hall' := Lib.hid hall'
              have Hpv := Lib.hid hpv
              clear hall' hpv hs1 hall hc
              go_wp2
              go_round
              case rel => exact ⟨k + 1, by omega, by omega, by go_num, by rw [show k + 1 - 1 = k from rfl, Hpv.out]; go_num, Hall'.out⟩
              case measure => simp [intOf]; omega
            · have hc' : isCont s[k] = false := by simpa using hc
              have hz2 := Lib.hid (sizeBy_cont (v := v) (cont_false_of s k 4 hk1 hlt (by omega) hc'))
              have hc2 : (s[k].toNat : Int) < 128 ∨ (191 : Int) < s[k].toNat := by
                have := isCont_iff s[k]; rw [hc'] at this; simp at this; omega
              clear hc hc' hall
              rcases hc2 with hc2 | hc2
              all_goals
                go_wp2
                go_ret
                rw [Hz.out, hz2.out]
                exact ⟨rfl, rfl⟩
          · obtain rfl : k = 4 := by omega
            have hz2 := Lib.hid (sizeBy_end (n := 4) (v := v) (by simp; omega) hall)
            have hle : least 4 = least 4 := rfl
            generalize ptVal (s.data.toList.tail.take (4 - 1)) v = q at *
            have hq : (q : Int) ≤ 33554432 := by omega
            clear hbd2 hall hle
            go_wp2_with fail
            refine (point_any _ _).mono ?_
            rintro e w' ⟨rfl, rfl⟩
            by_cases hle : (q : Int) < 65536
            · have hz3 : (if (q : Int) < least 4 ∨ isPt q = false then 0 else 4) = 0 := if_pos (.inl hle)
              have Hz3 := Lib.hid hz3
              clear hz3
              go_wp2
              go_ret
              rw [Hz.out, hz2.out, Hz3.out]
              exact ⟨rfl, rfl⟩
            · have hleb : decide ((q : Int) < 65536) = false := by simpa using hle
              have Hle := Lib.hid hle
              clear hle
              by_cases hp : isPt q = true
              · have hz3 : (if (q : Int) < least 4 ∨ isPt q = false then 0 else 4) = 4 := if_neg (by rw [hp]; intro h; rcases h with h | h; exact Hle.out h; cases h)
                have Hz3 := Lib.hid hz3
                clear hz3
                go_wp2
                go_ret
                rw [Hz.out, hz2.out, Hz3.out]
                exact ⟨rfl, rfl⟩
              · have hp' : isPt q = false := by simpa using hp
                have hz3 : (if (q : Int) < least 4 ∨ isPt q = false then 0 else 4) = 0 := if_pos (.inr hp')
                have Hz3 := Lib.hid hz3
                clear hz3 hp
                go_wp2
                go_ret
                rw [Hz.out, hz2.out, Hz3.out]
                exact ⟨rfl, rfl⟩
    · have hv' : (v : Int) = (s[0].toNat : Int) - 224 := by omega
      have hvlt : v ≤ 127 := hn.2.2
      have i1 : (224 : Int) ≤ (s[0].toNat : Int) := by omega
      have i2 : (s[0].toNat : Int) < 240 := by omega
      have Hv := Lib.hid hv'
      clear hv hv' hn
      by_cases hsh : s.size < 3
      · have hz2 := Lib.hid (sizeBy_short (l := s.data.toList) (n := 3) (v := v) (by simpa using hsh))
        go_enter Tryz.func33, Tryz.ntmps33
        go_wp2
        go_ret
        rw [Hz.out, hz2.out]
        exact ⟨rfl, rfl⟩
      · have i3 : (3 : Int) ≤ (s.size : Int) := by omega
        go_enter Tryz.func33, Tryz.ntmps33
        go_wp2
        go_loop [5, 7] (fun x i => ∃ k : Nat, 1 ≤ k ∧ k ≤ 3 ∧ i = .int .i64 k ∧ x = .int .i64 (ptVal (s.data.toList.tail.take (k - 1)) v) ∧ (s.data.toList.tail.take (k - 1)).all isCont = true) (fun _ i => 3 - (intOf i).toNat)
        case atStart => exact ⟨1, by omega, by omega, rfl, by rw [← Hv.out]; rfl, by simp⟩
        case round =>
          obtain ⟨k, hk1, hk2, rfl, rfl, hall⟩ := hrel
          have hbd := ptVal_lt _ v hall
          have hlen : (s.data.toList.tail.take (k - 1)).length ≤ 3 := by simp; omega
          have hbd2 : ptVal (s.data.toList.tail.take (k - 1)) v ≤ 64 ^ 3 * 128 := Nat.le_of_lt (Nat.lt_of_lt_of_le hbd (Nat.mul_le_mul (Nat.pow_le_pow_right (by omega) hlen) (by omega)))
          clear hbd hlen
          by_cases hlt : k < 3
          · by_cases hc : isCont s[k] = true
            · have hc' := (isCont_iff _).1 hc
              have hs1 := tail_snoc s k hk1 (by omega)
              have hall' := all_snoc hall hc
              have hpv := ptVal_snoc (s.data.toList.tail.take (k - 1)) s[k] v
              rw [← hs1] at hall' hpv
              have Hall' := Lib.hid hall'
              have Hpv := Lib.hid hpv
              clear hall' hpv hs1 hall hc
              go_wp2
              go_round
              case rel => exact ⟨k + 1, by omega, by omega, by go_num, by rw [show k + 1 - 1 = k from rfl, Hpv.out]; go_num, Hall'.out⟩
              case measure => simp [intOf]; omega
            · have hc' : isCont s[k] = false := by simpa using hc
              have hz2 := Lib.hid (sizeBy_cont (v := v) (cont_false_of s k 3 hk1 hlt (by omega) hc'))
              have hc2 : (s[k].toNat : Int) < 128 ∨ (191 : Int) < s[k].toNat := by
                have := isCont_iff s[k]; rw [hc'] at this; simp at this; omega
              clear hc hc' hall
              rcases hc2 with hc2 | hc2
              all_goals
                go_wp2
                go_ret
                rw [Hz.out, hz2.out]
                exact ⟨rfl, rfl⟩
          · obtain rfl : k = 3 := by omega
            have hz2 := Lib.hid (sizeBy_end (n := 3) (v := v) (by simp; omega) hall)
            have hle : least 3 = least 3 := rfl
            generalize ptVal (s.data.toList.tail.take (3 - 1)) v = q at *
            have hq : (q : Int) ≤ 33554432 := by omega
            clear hbd2 hall hle
            go_wp2_with fail
            refine (point_any _ _).mono ?_
            rintro e w' ⟨rfl, rfl⟩
            by_cases hle : (q : Int) < 2048
            · have hz3 : (if (q : Int) < least 3 ∨ isPt q = false then 0 else 3) = 0 := if_pos (.inl hle)
              have Hz3 := Lib.hid hz3
              clear hz3
              go_wp2
              go_ret
              rw [Hz.out, hz2.out, Hz3.out]
              exact ⟨rfl, rfl⟩
            · have hleb : decide ((q : Int) < 2048) = false := by simpa using hle
              have Hle := Lib.hid hle
              clear hle
              by_cases hp : isPt q = true
              · have hz3 : (if (q : Int) < least 3 ∨ isPt q = false then 0 else 3) = 3 := if_neg (by rw [hp]; intro h; rcases h with h | h; exact Hle.out h; cases h)
                have Hz3 := Lib.hid hz3
                clear hz3
                go_wp2
                go_ret
                rw [Hz.out, hz2.out, Hz3.out]
                exact ⟨rfl, rfl⟩
              · have hp' : isPt q = false := by simpa using hp
                have hz3 : (if (q : Int) < least 3 ∨ isPt q = false then 0 else 3) = 0 := if_pos (.inr hp')
                have Hz3 := Lib.hid hz3
                clear hz3 hp
                go_wp2
                go_ret
                rw [Hz.out, hz2.out, Hz3.out]
                exact ⟨rfl, rfl⟩
    · have hv' : (v : Int) = (s[0].toNat : Int) - 192 := by omega
      have hvlt : v ≤ 127 := hn.2.2
      have i1 : (192 : Int) ≤ (s[0].toNat : Int) := by omega
      have i2 : (s[0].toNat : Int) < 224 := by omega
      have Hv := Lib.hid hv'
      clear hv hv' hn
      by_cases hsh : s.size < 2
      · have hz2 := Lib.hid (sizeBy_short (l := s.data.toList) (n := 2) (v := v) (by simpa using hsh))
        go_enter Tryz.func33, Tryz.ntmps33
        go_wp2
        go_ret
        rw [Hz.out, hz2.out]
        exact ⟨rfl, rfl⟩
      · have i3 : (2 : Int) ≤ (s.size : Int) := by omega
        go_enter Tryz.func33, Tryz.ntmps33
        go_wp2
        go_loop [5, 7] (fun x i => ∃ k : Nat, 1 ≤ k ∧ k ≤ 2 ∧ i = .int .i64 k ∧ x = .int .i64 (ptVal (s.data.toList.tail.take (k - 1)) v) ∧ (s.data.toList.tail.take (k - 1)).all isCont = true) (fun _ i => 2 - (intOf i).toNat)
        case atStart => exact ⟨1, by omega, by omega, rfl, by rw [← Hv.out]; rfl, by simp⟩
        case round =>
          obtain ⟨k, hk1, hk2, rfl, rfl, hall⟩ := hrel
          have hbd := ptVal_lt _ v hall
          have hlen : (s.data.toList.tail.take (k - 1)).length ≤ 3 := by simp; omega
          have hbd2 : ptVal (s.data.toList.tail.take (k - 1)) v ≤ 64 ^ 3 * 128 := Nat.le_of_lt (Nat.lt_of_lt_of_le hbd (Nat.mul_le_mul (Nat.pow_le_pow_right (by omega) hlen) (by omega)))
          clear hbd hlen
          by_cases hlt : k < 2
          · by_cases hc : isCont s[k] = true
            · have hc' := (isCont_iff _).1 hc
              have hs1 := tail_snoc s k hk1 (by omega)
              have hall' := all_snoc hall hc
              have hpv := ptVal_snoc (s.data.toList.tail.take (k - 1)) s[k] v
              rw [← hs1] at hall' hpv
              have Hall' := Lib.hid hall'
              have Hpv := Lib.hid hpv
              clear hall' hpv hs1 hall hc
              go_wp2
              go_round
              case rel => exact ⟨k + 1, by omega, by omega, by go_num, by rw [show k + 1 - 1 = k from rfl, Hpv.out]; go_num, Hall'.out⟩
              case measure => simp [intOf]; omega
            · have hc' : isCont s[k] = false := by simpa using hc
              have hz2 := Lib.hid (sizeBy_cont (v := v) (cont_false_of s k 2 hk1 hlt (by omega) hc'))
              have hc2 : (s[k].toNat : Int) < 128 ∨ (191 : Int) < s[k].toNat := by
                have := isCont_iff s[k]; rw [hc'] at this; simp at this; omega
              clear hc hc' hall
              rcases hc2 with hc2 | hc2
              all_goals
                go_wp2
                go_ret
                rw [Hz.out, hz2.out]
                exact ⟨rfl, rfl⟩
          · obtain rfl : k = 2 := by omega
            have hz2 := Lib.hid (sizeBy_end (n := 2) (v := v) (by simp; omega) hall)
            have hle : least 2 = least 2 := rfl
            generalize ptVal (s.data.toList.tail.take (2 - 1)) v = q at *
            have hq : (q : Int) ≤ 33554432 := by omega
            clear hbd2 hall hle
            go_wp2_with fail
            refine (point_any _ _).mono ?_
            rintro e w' ⟨rfl, rfl⟩
            by_cases hle : (q : Int) < 128
            · have hz3 : (if (q : Int) < least 2 ∨ isPt q = false then 0 else 2) = 0 := if_pos (.inl hle)
              have Hz3 := Lib.hid hz3
              clear hz3
              go_wp2
              go_ret
              rw [Hz.out, hz2.out, Hz3.out]
              exact ⟨rfl, rfl⟩
            · have hleb : decide ((q : Int) < 128) = false := by simpa using hle
              have Hle := Lib.hid hle
              clear hle
              by_cases hp : isPt q = true
              · have hz3 : (if (q : Int) < least 2 ∨ isPt q = false then 0 else 2) = 2 := if_neg (by rw [hp]; intro h; rcases h with h | h; exact Hle.out h; cases h)
                have Hz3 := Lib.hid hz3
                clear hz3
                go_wp2
                go_ret
                rw [Hz.out, hz2.out, Hz3.out]
                exact ⟨rfl, rfl⟩
              · have hp' : isPt q = false := by simpa using hp
                have hz3 : (if (q : Int) < least 2 ∨ isPt q = false then 0 else 2) = 0 := if_pos (.inr hp')
                have Hz3 := Lib.hid hz3
                clear hz3 hp
                go_wp2
                go_ret
                rw [Hz.out, hz2.out, Hz3.out]
                exact ⟨rfl, rfl⟩
    · have hz2 : sizeBy s.data.toList 1 v = 1 := by
        rw [sizeBy_end (by rw [size_toList]; omega) (by simp)]
        refine if_neg ?_
        have e1 : ptVal (s.data.toList.tail.take (1 - 1)) v = v := by simp [ptVal]
        rw [e1]
        have e2 : least 1 = 0 := rfl
        have e3 : isPt (v : Int) = true := by simp only [isPt, decide_eq_true_eq]; omega
        rw [e2, e3]
        intro h
        rcases h with h | h
        · omega
        · cases h
      have Hz2 := Lib.hid hz2
      have hp : isPt ((s[0].toNat : Int)) = true := by simp [isPt]; omega
      have i2 : (s[0].toNat : Int) < 128 := by omega
      have i3 : ¬ ((s.size : Int) < 1) := by omega
      have Hv := Lib.hid hv
      clear hz2 hv hn
      go_enter Tryz.func33, Tryz.ntmps33
      go_wp2
      refine wp_loop_rounds 1 ?_
      rw [rounds_succ]
      go_wp2_with fail
      refine (point_any _ _).mono ?_
      rintro e w' ⟨rfl, rfl⟩
      go_wp2
      go_ret
      rw [Hz.out, Hz2.out]
      exact ⟨rfl, rfl⟩
end Go.Proofs.YtpepgmccbkkaaaaGreatDoor

/- phrasesref.points: a text's code points. -/
namespace Go.Proofs.YtpepgmccbkkaaaaGreatDoor
open Go Go.RowKit

theorem sizeBy_le (l : List UInt8) (n v : Nat) : sizeBy l n v ≤ l.length ∧ sizeBy l n v ≤ n := by
  unfold sizeBy
  repeat' split
  all_goals omega

theorem sizeL_le (l : List UInt8) : sizeL l ≤ l.length ∧ sizeL l ≤ 4 := by
  have h := fun n v => sizeBy_le l n v
  unfold sizeL
  simp only []
  split
  · exact h 4 _
  split
  · exact ⟨(h 3 _).1, by have := (h 3 ((l.headD 0).toNat - 224)).2; omega⟩
  split
  · exact ⟨(h 2 _).1, by have := (h 2 ((l.headD 0).toNat - 192)).2; omega⟩
  split
  · omega
  · exact ⟨(h 1 _).1, by have := (h 1 ((l.headD 0).toNat)).2; omega⟩

/-- a text's code points, each as its bytes, and how many bytes they are -/
def ptsL (l : List UInt8) : List (List UInt8) × Nat :=
  if h : l = [] ∨ sizeL l = 0 then ([], 0) else
    let r := ptsL (l.drop (sizeL l))
    (l.take (sizeL l) :: r.1, sizeL l + r.2)
  termination_by l.length
  decreasing_by
    simp only [not_or] at h
    have := List.length_pos_iff.2 h.1
    simp; omega

theorem ptsL_nil : ptsL [] = ([], 0) := by rw [ptsL]; simp
theorem ptsL_bad {l : List UInt8} (h : sizeL l = 0) : ptsL l = ([], 0) := by rw [ptsL]; simp [h]
theorem ptsL_step {l : List UInt8} (h0 : l ≠ []) (h : sizeL l ≠ 0) : ptsL l = (l.take (sizeL l) :: (ptsL (l.drop (sizeL l))).1, sizeL l + (ptsL (l.drop (sizeL l))).2) := by
  rw [ptsL, dif_neg (by simp [h0, h])]

def PointsPost (l : List UInt8) (w : World) (e : Ending) (w' : World) : Prop :=
  ∃ v, e = .returned (.tuple #[v, .int .i64 (ptsL l).2]) ∧ w'.ownsRow w.heap.size 9 1 v (ptsL l).1.length ((ptsL l).1.map strv) ∧ Below w.heap.size w w'

/-- the loop's relation -/
def PtsRel (l : List UInt8) (w : World) (v i : Value) (wr : World) : Prop :=
  ∃ (k : Nat) (acc : List (List UInt8)), k ≤ l.length ∧ i = .int .i64 k ∧ wr.ownsRow w.heap.size 9 1 v acc.length (acc.map strv) ∧ Below w.heap.size w wr ∧
    acc.length ≤ k ∧ (ptsL l).1 = acc ++ (ptsL (l.drop k)).1 ∧ (ptsL l).2 = k + (ptsL (l.drop k)).2

theorem ptsRel_step {l : List UInt8} {w : World} {k n : Nat} {acc : List (List UInt8)} {v' : Value} {w1 : World} (hk : k < l.length) (hn : sizeL (l.drop k) = n) (h0 : n ≠ 0)
    (hown : w1.ownsRow w.heap.size 9 1 v' (acc.length + 1) (acc.map strv ++ [strv ((l.drop k).take n)])) (hb : Below w.heap.size w w1)
    (hl : acc.length ≤ k) (h1 : (ptsL l).1 = acc ++ (ptsL (l.drop k)).1) (h2 : (ptsL l).2 = k + (ptsL (l.drop k)).2) : PtsRel l w v' (.int .i64 ((k : Int) + n)) w1 := by
  have hne : l.drop k ≠ [] := by simp; omega
  have hle := (sizeL_le (l.drop k)).1
  rw [hn] at hle
  simp only [List.length_drop] at hle
  rw [ptsL_step hne (by omega), hn, List.drop_drop] at h1 h2
  refine ⟨k + n, acc ++ [(l.drop k).take n], by omega, by go_num, ?_, hb, ?_, ?_, ?_⟩
  · simpa using hown
  · simp; omega
  · rw [h1]; simp
  · rw [h2]; simp; omega

set_option maxHeartbeats 800000 in
theorem points_any (s : ByteArray) (w : World) (hs : s.size ≤ 1000000000) :
    Calls Tryz.prog 21 #[.string s] w (PointsPost s.data.toList w) := by
  go_enter Tryz.func21, Tryz.ntmps21
  go_wp2
  go_loopw [4, 5] (fun v i wr => PtsRel s.data.toList w v i wr) (fun _ i _ => s.size - (intOf i).toNat)
  case atStart => exact ⟨0, [], by omega, rfl, World.ownsRow_nil _ _ _ _, Below.refl _ _, by simp, by simp, by simp⟩
  case round =>
    obtain ⟨k, acc, hk, rfl, hown, hb, hl, h1, h2⟩ := hrel
    rw [size_toList] at hk
    have H1 := Lib.hid h1
    have H2 := Lib.hid h2
    clear h1 h2
    by_cases hlt : k < s.size
    · have e1 : (s.extract k s.size).data.toList = s.data.toList.drop k := by rw [extract_drop]
      have hle := sizeL_le (s.data.toList.drop k)
      simp only [List.length_drop, size_toList] at hle
      obtain ⟨n, hn⟩ : ∃ n, sizeL (s.data.toList.drop k) = n := ⟨_, rfl⟩
      rw [hn] at hle
      go_wp2_with fail
      refine (size_any _ _ (by simp; omega) (by simp; omega)).mono ?_
      rw [e1, hn]
      have Hn := Lib.hid hn
      clear hn e1
      rintro e w' ⟨rfl, rfl⟩
      by_cases h0 : n = 0
      · subst h0
        go_wp2
        go_ret2
        have hz := ptsL_bad Hn.out
        refine ⟨_, ?_, (by rw [H1.out, hz]; simpa using hown), hb⟩
        rw [H2.out, hz]
        rfl
      · have h0' : ((n : Int) == 0) = false := by simpa using h0
        go_wp2_with (at_builtin; refine app_own elem_strs rfl _ _ rfl w.heap.size _ _ _ rfl (hown.alloc _) ⟨wr.heap.size, 0, none⟩ 1 1 [.string (s.extract k (k + n))] rfl rfl ?c1 ?c2 ?c3 ?c4 ?_)
        case c1 => exact cells_one (by simp)
        case c2 => intro u hu; simp at hu; subst hu; rfl
        case c3 => omega
        case c4 => have := hb.size; simp; omega
        intro v' w1 hown' hgrow
        go_wp2
        go_roundw
        case rel =>
          have e2 : s.extract k (k + n) = ⟨((s.data.toList.drop k).take n).toArray⟩ := by rw [extract_eq, Nat.add_sub_cancel_left]
          rw [e2] at hown'
          exact ptsRel_step (by rw [size_toList]; exact hlt) Hn.out h0 hown' ((hb.alloc hb.size _).grown hgrow (by have := hb.size; simp; omega) (fun q hq => (hown.lt q hq).1)) hl H1.out H2.out
        case measure => simp [intOf]; omega
    · go_wp2
      go_ret2
      have hz : ptsL (s.data.toList.drop k) = ([], 0) := by rw [List.drop_of_length_le (by simp; omega), ptsL_nil]
      refine ⟨_, ?_, (by rw [H1.out, hz]; simpa using hown), hb⟩
      rw [H2.out, hz]
      rfl
end Go.Proofs.YtpepgmccbkkaaaaGreatDoor
