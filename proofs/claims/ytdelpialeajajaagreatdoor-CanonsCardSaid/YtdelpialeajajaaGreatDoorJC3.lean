import Derived.Test.YtdelpialeajajaaGreatDoorJC2
import Derived.IntWalk

/- The document's reader of patterns: in memory; fault, needs, blanks. -/
namespace Go.Proofs.YtdelpialeajajaaGreatDoor
open Go Go.RowKit
set_option maxRecDepth 10000

/-- a mark -/
structure Mk where
  kind : Nat
  text : Wd
  name : Wd
  how : Wd
  off : Wd
  pl : Nat
deriving DecidableEq

def markV (m : Mk) : List Value := [.int .u8 (m.kind : Nat), strv m.text, strv m.name, strv m.how, strv m.off, .int .i64 (m.pl : Nat)]
def marksC (l : List Mk) : List Value := l.flatMap markV
def boolsC (l : List Bool) : List Value := l.map Value.bool

/-- the reader's state -/
structure Sc where
  i : Nat
  out : List Mk
  opn : List Bool
  err : Nat
  place : Nat

structure ScanAt (p : Nat) (s : ByteArray) (x : Sc) (w : World) : Prop where
  c0 : w.cell? ⟨p, 0, none⟩ = some (.string s)
  c1 : w.cell? ⟨p, 1, none⟩ = some (.int .i64 (x.i : Nat))
  rows : ∃ v2 v3, w.cell? ⟨p, 2, none⟩ = some v2 ∧ w.ownsRow (p + 1) 61 6 v2 x.out.length (marksC x.out) ∧ w.cell? ⟨p, 3, none⟩ = some v3 ∧ w.ownsRow (p + 1) 4 1 v3 x.opn.length (boolsC x.opn) ∧ ∀ g, v2.ownBlock = some g → v3.ownBlock ≠ some g
  c4 : w.cell? ⟨p, 4, none⟩ = some (.int .i64 (x.err : Nat))
  c5 : w.cell? ⟨p, 5, none⟩ = some (.int .i64 (x.place : Nat))
  z : ∀ j, w.frozen? ⟨p, j, none⟩ = false
  size : s.size ≤ 100000
  here : x.i ≤ s.size
  lout : x.out.length ≤ 1000000
  lopn : x.opn.length ≤ 1000000

theorem ScanAt.lt {p : Nat} {s : ByteArray} {x : Sc} {w : World} (h : ScanAt p s x w) : p < w.heap.size := World.block_lt_of_cell? w _ h.c0

theorem own_below {W W' : World} {base : Nat} {e : TypeId} {size n : Nat} {v : Value} {xs : List Value} (h : W.ownsRow base e size v n xs) (hb : Below W.heap.size W W') : W'.ownsRow base e size v n xs := by
  have hlt := h.lt
  obtain ⟨h1, h2⟩ := h
  refine ⟨h1, ?_⟩
  rcases h2 with h2 | ⟨g, cap, cur, hv, hg, hh, rest⟩
  · exact .inl h2
  · exact .inr ⟨g, cap, cur, hv, hg, (hb.block g (hlt g (by rw [hv]; rfl)).2).trans hh, rest⟩

theorem ScanAt.below {p : Nat} {s : ByteArray} {x : Sc} {w w' : World} (h : ScanAt p s x w) (hb : Below w.heap.size w w') : ScanAt p s x w' := by
  have hlt := h.lt
  obtain ⟨h0, h1, ⟨v2, v3, h2, h2', h3, h3', hd⟩, h4, h5, h6, h7, h8, h9, h10⟩ := h
  exact ⟨(hb.cell (p := ⟨p, 0, none⟩) hlt).trans h0, (hb.cell (p := ⟨p, 1, none⟩) hlt).trans h1, ⟨v2, v3, (hb.cell (p := ⟨p, 2, none⟩) hlt).trans h2, own_below h2' hb, (hb.cell (p := ⟨p, 3, none⟩) hlt).trans h3, own_below h3' hb, hd⟩,
    (hb.cell (p := ⟨p, 4, none⟩) hlt).trans h4, (hb.cell (p := ⟨p, 5, none⟩) hlt).trans h5, fun j => (hb.frozen (p := ⟨p, j, none⟩) hlt).trans (h6 j), h7, h8, h9, h10⟩

/-- a plain cell of the reader is written -/
theorem ScanAt.put1 {p : Nat} {s : ByteArray} {x : Sc} {w : World} (h : ScanAt p s x w) (i : Nat) (hi : i ≤ s.size) : ScanAt p s { x with i := i } (w.setCell ⟨p, 1, none⟩ (.int .i64 (i : Nat))) := by
  obtain ⟨h0, h1, ⟨v2, v3, h2, h2', h3, h3', hd⟩, h4, h5, h6, h7, h8, h9, h10⟩ := h
  exact ⟨by rw [cellSet, if_neg (by simp)]; exact h0, by rw [cellSet, if_pos rfl, h1]; rfl, ⟨v2, v3, by rw [cellSet, if_neg (by simp)]; exact h2, ownsRow_setCell_below h2' (by show p < p + 1; omega) _, by rw [cellSet, if_neg (by simp)]; exact h3, ownsRow_setCell_below h3' (by show p < p + 1; omega) _, hd⟩,
    by rw [cellSet, if_neg (by simp)]; exact h4, by rw [cellSet, if_neg (by simp)]; exact h5, fun j => by rw [World.frozen?_setCell]; exact h6 j, h7, hi, h9, h10⟩
theorem ScanAt.put4 {p : Nat} {s : ByteArray} {x : Sc} {w : World} (h : ScanAt p s x w) (e : Nat) : ScanAt p s { x with err := e } (w.setCell ⟨p, 4, none⟩ (.int .i64 (e : Nat))) := by
  obtain ⟨h0, h1, ⟨v2, v3, h2, h2', h3, h3', hd⟩, h4, h5, h6, h7, h8, h9, h10⟩ := h
  exact ⟨by rw [cellSet, if_neg (by simp)]; exact h0, by rw [cellSet, if_neg (by simp)]; exact h1, ⟨v2, v3, by rw [cellSet, if_neg (by simp)]; exact h2, ownsRow_setCell_below h2' (by show p < p + 1; omega) _, by rw [cellSet, if_neg (by simp)]; exact h3, ownsRow_setCell_below h3' (by show p < p + 1; omega) _, hd⟩,
    by rw [cellSet, if_pos rfl, h4]; rfl, by rw [cellSet, if_neg (by simp)]; exact h5, fun j => by rw [World.frozen?_setCell]; exact h6 j, h7, h8, h9, h10⟩
theorem ScanAt.put5 {p : Nat} {s : ByteArray} {x : Sc} {w : World} (h : ScanAt p s x w) (e : Nat) : ScanAt p s { x with place := e } (w.setCell ⟨p, 5, none⟩ (.int .i64 (e : Nat))) := by
  obtain ⟨h0, h1, ⟨v2, v3, h2, h2', h3, h3', hd⟩, h4, h5, h6, h7, h8, h9, h10⟩ := h
  exact ⟨by rw [cellSet, if_neg (by simp)]; exact h0, by rw [cellSet, if_neg (by simp)]; exact h1, ⟨v2, v3, by rw [cellSet, if_neg (by simp)]; exact h2, ownsRow_setCell_below h2' (by show p < p + 1; omega) _, by rw [cellSet, if_neg (by simp)]; exact h3, ownsRow_setCell_below h3' (by show p < p + 1; omega) _, hd⟩,
    by rw [cellSet, if_neg (by simp)]; exact h4, by rw [cellSet, if_pos rfl, h5]; rfl, fun j => by rw [World.frozen?_setCell]; exact h6 j, h7, h8, h9, h10⟩

theorem below_put {a w : World} {B b j : Nat} {u : Value} (h : Below B a w) (hb : B ≤ b) : Below B a (w.setCell ⟨b, j, none⟩ u) :=
  ⟨h.os, h.tape, h.output, Nat.le_trans h.size (by simp [World.setCell]), fun k hk => (Below.heap_setCell _ _ _ _ (by show k ≠ b; omega)).trans (h.block k hk)⟩

/-- a step of the reader: it writes nothing below its own block -/
def ScanQ (p : Nat) (s : ByteArray) (v : Value) (x : Sc) (w : World) (e : Ending) (w' : World) : Prop := e = .returned v ∧ ScanAt p s x w' ∧ Below p w w'

/-- a step of the reader writes its own block alone, and there not the marks -/
structure Fr (p : Nat) (w w' : World) : Prop where
  but : But p w w'
  c2 : w'.cell? ⟨p, 2, none⟩ = w.cell? ⟨p, 2, none⟩
theorem Fr.refl (p : Nat) (w : World) : Fr p w w := ⟨But.refl p w, rfl⟩
theorem Fr.trans {p : Nat} {a b c : World} (h : Fr p a b) (k : Fr p b c) : Fr p a c := ⟨h.but.trans k.but, k.c2.trans h.c2⟩
theorem Fr.drew {p : Nat} {w w' : World} (h : Fr p w w') : Fr p w w'.drew := ⟨h.but.drew, h.c2⟩
theorem fr_put {p : Nat} {a w : World} {j : Nat} {u : Value} (h : Fr p a w) (hj : j ≠ 2 := by decide) : Fr p a (w.setCell ⟨p, j, none⟩ u) :=
  ⟨h.but.trans (But.set p w j u), by rw [cellSet, if_neg (fun e => hj (by cases e; rfl))]; exact h.c2⟩
theorem Fr.below {p : Nat} {s : ByteArray} {x : Sc} {w w' : World} (h : Fr p w w') (hs : ScanAt p s x w) : Below p w w' := h.but.low (Nat.le_refl _) (Nat.le_of_lt hs.lt)
def ScanB (p : Nat) (s : ByteArray) (v : Value) (x : Sc) (w : World) (e : Ending) (w' : World) : Prop := e = .returned v ∧ ScanAt p s x w' ∧ Fr p w w'

def faultS (x : Sc) (e a : Nat) : Sc := if x.err = 0 then { x with err := e, place := a } else x

theorem scan_fault (p : Nat) (s : ByteArray) (x : Sc) (e a : Nat) (w : World) (h : ScanAt p s x w) :
    Calls Tryz.prog 49 #[.pointer (some ⟨p, 0, none⟩), .int .i64 (e : Nat), .int .i64 (a : Nat)] w (ScanB p s (.tuple #[]) (faultS x e a) w) := by
  have HH := Lib.hid h
  have c4 := h.c4
  have c5 := h.c5
  have z4 := h.z 4
  have z5 := h.z 5
  have hlt := h.lt
  by_cases h0 : x.err = 0
  · have HF := Lib.hid (show faultS x e a = { x with err := e, place := a } from if_pos h0)
    rw [h0] at c4
    have c5' : (w.setCell ⟨p, 4, none⟩ (.int .i64 (e : Nat))).cell? ⟨p, 5, none⟩ = some (.int .i64 (x.place : Nat)) := by rw [cellSet, if_neg (by simp)]; exact c5
    clear h h0
    go_enter Tryz.func49, Tryz.ntmps49
    go_wp2
    refine bodyPost_ret (v := .tuple #[]) ?_ rfl ?_
    · simp [results, Tryz.results49, go_sem]
    rw [HF.out]
    exact ⟨rfl, (HH.out.put4 e).put5 a, fr_put (fr_put (Fr.refl _ _))⟩
  · have HF := Lib.hid (show faultS x e a = x from if_neg h0)
    have j1 : ((x.err : Int) == 0) = false := by simp; omega
    clear h h0
    go_enter Tryz.func49, Tryz.ntmps49
    go_wp2
    refine bodyPost_ret (v := .tuple #[]) ?_ rfl ?_
    · simp [results, Tryz.results49, go_sem]
    rw [HF.out]
    exact ⟨rfl, HH.out, Fr.refl _ _⟩
end Go.Proofs.YtdelpialeajajaaGreatDoor

/- The document's reader: blanks. -/
namespace Go.Proofs.YtdelpialeajajaaGreatDoor
open Go Go.RowKit
set_option maxRecDepth 10000

def isBl (c : UInt8) : Bool := c == 32 || c == 9 || c == 10 || c == 13
def blankN (l : List UInt8) : Nat := (l.takeWhile isBl).length
def blanksS (s : ByteArray) (x : Sc) : Sc := { x with i := x.i + blankN (s.data.toList.drop x.i) }

theorem drop_at (s : ByteArray) (k : Nat) (h : k < s.size) : s.data.toList.drop k = s[k] :: s.data.toList.drop (k + 1) := by
  rw [List.drop_eq_getElem_cons (by simpa using h), getElem_toList s k h]
theorem drop_end (s : ByteArray) (k : Nat) (h : s.size ≤ k) : s.data.toList.drop k = [] := List.drop_of_length_le (by simpa using h)

theorem byte_ne {c d : UInt8} (h : ¬ c = d) : ((c.toNat : Int) == (d.toNat : Int)) = false := by
  rw [toNat_beq]
  simpa using h

/-- where a reader stands -/
def atSc (p : Nat) (w : World) : Nat := match w.cell? ⟨p, 1, none⟩ with | some (.int _ n) => n.toNat | _ => 0
theorem atS {p : Nat} {s : ByteArray} {x : Sc} {w : World} (h : ScanAt p s x w) : atSc p w = x.i := by
  unfold atSc
  rw [h.c1]
  rfl

theorem below_drew {B : Nat} {a w : World} (h : Below B a w) : Below B a w.drew := ⟨h.os, h.tape, h.output, h.size, h.block⟩

set_option maxHeartbeats 8000000 in
theorem scan_blanks (p : Nat) (s : ByteArray) (x : Sc) (w : World) (h : ScanAt p s x w) :
    Calls Tryz.prog 104 #[.pointer (some ⟨p, 0, none⟩)] w (ScanB p s (.tuple #[]) (blanksS s x) w) := by
  have HX := Lib.hid h
  have hsz := h.size
  obtain ⟨E, hE⟩ : ∃ E, x.i + blankN (s.data.toList.drop x.i) = E := ⟨_, rfl⟩
  unfold blanksS
  rw [hE]
  have HE0 := Lib.hid hE
  clear h hE
  go_enter Tryz.func104, Tryz.ntmps104
  go_wp2_with fail
  go_loopw [] (fun wr => ∃ k, x.i ≤ k ∧ k ≤ s.size ∧ ScanAt p s { x with i := k } wr ∧ Fr p w wr ∧ k + blankN (s.data.toList.drop k) = E) (fun wr => s.size - atSc p wr)
  case atStart => exact ⟨x.i, Nat.le_refl _, HX.out.here, HX.out, Fr.refl _ _, HE0.out⟩
  case round =>
    obtain ⟨k, hk1, hk2, hs, hbw, he⟩ := hrel
    have HH := Lib.hid hs
    have HBW := Lib.hid hbw
    have c0 := hs.c0
    have c1 := hs.c1
    have z1 := hs.z 1
    dsimp only at c1
    have hS0 : wr.drew.cell? ⟨p, 0, none⟩ = some (.string s) ∧ wr.drew.cell? ⟨p, 1, none⟩ = some (.int .i64 (k : Nat)) := ⟨c0, c1⟩
    have HEE := Lib.hid he
    clear hs hbw he
    by_cases hlt : k < s.size
    · have k1 : (k : Int) < (s.size : Int) := by omega
      have k2 : decide ((k : Int) < (s.size : Int)) = true := by simp; omega
      have hdr := drop_at s k hlt
      have HDR := Lib.hid hdr
      obtain ⟨c, hc⟩ : ∃ c, s[k] = c := ⟨_, rfl⟩
      have HCC := Lib.hid hc
      clear hdr
      by_cases hb : isBl c = true
      · have HM := Lib.hid (show (k + 1) + blankN (s.data.toList.drop (k + 1)) = E by
          rw [← HEE.out, HDR.out, HCC.out]
          unfold blankN
          rw [List.takeWhile_cons_of_pos hb]
          simp
          omega)
        have hb4 : c = 32 ∨ c = 9 ∨ c = 10 ∨ c = 13 := by simp [isBl] at hb; rcases hb with ((q | q) | q) | q <;> simp [q]
        clear hb
        rcases hb4 with rfl | rfl | rfl | rfl
        all_goals
          have hcn : s[k].toNat = (s[k]).toNat := rfl
          rw [hc] at hcn
          clear hcn
          go_wp2_with fail
          refine wp_region_takes (fun W' : World => W'.cell? ⟨p, 0, none⟩ = some (.string s) ∧ W'.cell? ⟨p, 1, none⟩ = some (.int .i64 (k : Nat))) [0, 1, 2, 3, 4, 5, 6, 7, 8, 9, 10, 11, 12, 13, 14, 15, 16, 17, 18, 19, 20, 21, 22, 23, 24, 25, 26, 27, 28, 29, 30, 31, 32, 33, 34, 35, 36, 37, 38, 39, 40, 41, 42, 43, 44, 45, 46, 47, 48, 49, 50, 51, 52, 53, 54, 55, 56, 57] 0 (by intro _ _ d _ _ h; cases d <;> exact h) (by kernel_rfl) (by kernel_rfl) hS0 ?_
          (iterate 58 (first | (refine takes_yes (v := ?_) rfl (by rfl) ?_ ?_; rotate_left; (focus ((intro w' hS'; (try dsimp only at hS'); go_simp; try (with_reducible rfl)); done)); (try simp only [Act.put, List.setIfInBounds_toArray, List.set_cons_zero, List.set_cons_succ])) | (refine takes_no rfl (by rfl) ?_; (try simp only [Act.put, List.setIfInBounds_toArray, List.set_cons_zero, List.set_cons_succ]))))
          refine takes_nil ?_
          refine wpAnyH_done (by kernel_rfl) ?_ _
          have HST := Lib.hid (show ScanAt p s { x with i := k + 1 } (wr.setCell ⟨p, 1, none⟩ (.int .i64 ((k : Int) + 1))).drew from by
            have h := (HH.out.put1 (k + 1) (by omega)).below (Below.refl _ _).drew
            rw [show ((k : Int) + 1) = ((k + 1 : Nat) : Int) from by omega]
            exact h)
          go_wp2
          go_roundw
          case rel => exact ⟨k + 1, by omega, by omega, HST.out, (fr_put HBW.out).drew, HM.out⟩
          case measure =>
            rw [atS HST.out, atS HH.out]
            dsimp only
            omega
      · have HE := Lib.hid (show k = E by
          rw [← HEE.out, HDR.out, HCC.out]
          unfold blankN
          rw [List.takeWhile_cons_of_neg hb]
          simp)
        have hb4 : ¬ c = 32 ∧ ¬ c = 9 ∧ ¬ c = 10 ∧ ¬ c = 13 := ⟨fun e => hb (by rw [e]; rfl), fun e => hb (by rw [e]; rfl), fun e => hb (by rw [e]; rfl), fun e => hb (by rw [e]; rfl)⟩
        obtain ⟨q1, q2, q3, q4⟩ := hb4
        have j1 : ((c.toNat : Int) == 32) = false := byte_ne q1
        have j2 : ((c.toNat : Int) == 9) = false := byte_ne q2
        have j3 : ((c.toNat : Int) == 10) = false := byte_ne q3
        have j4 : ((c.toNat : Int) == 13) = false := byte_ne q4
        clear hb q1 q2 q3 q4
        go_wp2_with fail
        refine wp_region_takes (fun W' : World => W'.cell? ⟨p, 0, none⟩ = some (.string s) ∧ W'.cell? ⟨p, 1, none⟩ = some (.int .i64 (k : Nat))) [0, 1, 2, 3, 4, 5, 6, 7, 8, 9, 10, 11, 12, 13, 14, 15, 16, 17, 18, 19, 20, 21, 22, 23, 24, 25, 26, 27, 28, 29, 30, 31, 32, 33, 34, 35, 36, 37, 38, 39, 40, 41, 42, 43, 44, 45, 46, 47, 48, 49, 50, 51, 52, 53, 54, 55, 56, 57] 0 (by intro _ _ d _ _ h; cases d <;> exact h) (by kernel_rfl) (by kernel_rfl) hS0 ?_
        (iterate 58 (first | (refine takes_yes (v := ?_) rfl (by rfl) ?_ ?_; rotate_left; (focus ((intro w' hS'; (try dsimp only at hS'); go_simp; try (with_reducible rfl)); done)); (try simp only [Act.put, List.setIfInBounds_toArray, List.set_cons_zero, List.set_cons_succ])) | (refine takes_no rfl (by rfl) ?_; (try simp only [Act.put, List.setIfInBounds_toArray, List.set_cons_zero, List.set_cons_succ]))))
        refine takes_nil ?_
        refine wpAnyH_done (by kernel_rfl) ?_ _
        go_wp2
        refine bodyPost_ret (v := .tuple #[]) ?_ rfl ?_
        · simp [results, Tryz.results104, go_sem]
        rw [← HE.out]
        exact ⟨rfl, HH.out.below (Below.refl _ _).drew, HBW.out.drew⟩
    · have k2 : decide ((k : Int) < (s.size : Int)) = false := by simp; omega
      have HE := Lib.hid (show k = E by rw [← HEE.out, drop_end s k (by omega)]; rfl)
      go_wp2_with fail
      refine wp_region_takes (fun W' : World => W'.cell? ⟨p, 0, none⟩ = some (.string s) ∧ W'.cell? ⟨p, 1, none⟩ = some (.int .i64 (k : Nat))) [0, 1, 2, 3, 4, 5, 6, 7, 8, 9, 10, 11, 12, 13, 14, 15, 16, 17, 18, 19, 20, 21, 22, 23, 24, 25, 26, 27, 28, 29, 30, 31, 32, 33, 34, 35, 36, 37, 38, 39, 40, 41, 42, 43, 44, 45, 46, 47, 48, 49, 50, 51, 52, 53, 54, 55, 56, 57] 0 (by intro _ _ d _ _ h; cases d <;> exact h) (by kernel_rfl) (by kernel_rfl) hS0 ?_
      (iterate 58 (first | (refine takes_yes (v := ?_) rfl (by rfl) ?_ ?_; rotate_left; (focus ((intro w' hS'; (try dsimp only at hS'); go_simp; try (with_reducible rfl)); done)); (try simp only [Act.put, List.setIfInBounds_toArray, List.set_cons_zero, List.set_cons_succ])) | (refine takes_no rfl (by rfl) ?_; (try simp only [Act.put, List.setIfInBounds_toArray, List.set_cons_zero, List.set_cons_succ]))))
      refine takes_nil ?_
      refine wpAnyH_done (by kernel_rfl) ?_ _
      go_wp2
      refine bodyPost_ret (v := .tuple #[]) ?_ rfl ?_
      · simp [results, Tryz.results104, go_sem]
      rw [← HE.out]
      exact ⟨rfl, HH.out.below (Below.refl _ _).drew, HBW.out.drew⟩

end Go.Proofs.YtdelpialeajajaaGreatDoor

/- The document's reader: names. -/
namespace Go.Proofs.YtdelpialeajajaaGreatDoor
open Go Go.RowKit
set_option maxRecDepth 10000

def letB (c : UInt8) : Bool := (decide (97 ≤ c.toNat) && decide (c.toNat ≤ 122)) || (decide (65 ≤ c.toNat) && decide (c.toNat ≤ 90)) || decide (c.toNat = 95)
def digB (c : UInt8) : Bool := decide (48 ≤ c.toNat) && decide (c.toNat ≤ 57)
/-- how many bytes ahead are a name, behind n that are -/
def nmGo : Nat → List UInt8 → Nat
  | n, [] => n
  | n, c :: t => if n < 16 ∧ (letB c = true ∨ (n ≠ 0 ∧ digB c = true)) then nmGo (n + 1) t else n
def nmB (l : List UInt8) : Nat := nmGo 0 l

theorem nmGo_le : ∀ (l : List UInt8) (n : Nat), n ≤ nmGo n l ∧ nmGo n l ≤ n + l.length ∧ (n ≤ 16 → nmGo n l ≤ 16)
  | [], n => ⟨Nat.le_refl _, Nat.le_refl _, fun h => h⟩
  | c :: t, n => by
    rw [nmGo]
    split
    · next h =>
      have := nmGo_le t (n + 1)
      exact ⟨by omega, by simp; omega, fun _ => this.2.2 (by omega)⟩
    · exact ⟨Nat.le_refl _, by simp, fun h => h⟩

set_option maxHeartbeats 4000000 in
theorem named_any (s : ByteArray) (w : World) (hs : s.size ≤ 100000) : Calls Tryz.prog 147 #[.string s] w fun e w' => e = .returned (.int .i64 (nmB s.data.toList : Nat)) ∧ w' = w := by
  obtain ⟨R, hR⟩ : ∃ R, nmB s.data.toList = R := ⟨_, rfl⟩
  rw [hR]
  have HR := Lib.hid hR
  clear hR
  go_enter Tryz.func147, Tryz.ntmps147
  go_wp2_with fail
  go_loopw [3] (fun nv wr => ∃ n, nv = .int .i64 (n : Nat) ∧ n ≤ s.size ∧ wr = w ∧ nmGo n (s.data.toList.drop n) = R) (fun nv _ => s.size - (intOf nv).toNat)
  case atStart => exact ⟨0, rfl, Nat.zero_le _, rfl, by rw [List.drop_zero]; exact HR.out⟩
  case round =>
    obtain ⟨n, rfl, hn, rfl, hg⟩ := hrel
    have HG := Lib.hid hg
    clear hg
    by_cases hlt : n < s.size
    · have k1 : (n : Int) < (s.size : Int) := by omega
      have k2 : decide ((n : Int) < (s.size : Int)) = true := by simp; omega
      have hdr := drop_at s n hlt
      have hst : nmGo n (s.data.toList.drop n) = if n < 16 ∧ (letB s[n] = true ∨ (n ≠ 0 ∧ digB s[n] = true)) then nmGo (n + 1) (s.data.toList.drop (n + 1)) else n := by rw [hdr, nmGo]
      have HST := Lib.hid (hst.symm.trans HG.out)
      clear hdr hst
      obtain ⟨c, hc⟩ : ∃ c, s[n] = c := ⟨_, rfl⟩
      rw [hc] at HST
      by_cases h16 : n < 16
      · have k3 : decide ((n : Int) < 16) = true := by simp; omega
        have hlt255 := c.toNat_lt
        have hcl : (97 ≤ c.toNat ∧ c.toNat ≤ 122) ∨ (65 ≤ c.toNat ∧ c.toNat ≤ 90) ∨ (95 ≤ c.toNat ∧ c.toNat ≤ 95) ∨ (123 ≤ c.toNat ∧ c.toNat ≤ 255) ∨ (96 ≤ c.toNat ∧ c.toNat ≤ 96) ∨ (91 ≤ c.toNat ∧ c.toNat ≤ 94) ∨ (58 ≤ c.toNat ∧ c.toNat ≤ 64) ∨ (48 ≤ c.toNat ∧ c.toNat ≤ 57) ∨ (0 ≤ c.toNat ∧ c.toNat ≤ 47) := by omega
        rcases hcl with ⟨p1, p2⟩ | ⟨p1, p2⟩ | ⟨p1, p2⟩ | ⟨p1, p2⟩ | ⟨p1, p2⟩ | ⟨p1, p2⟩ | ⟨p1, p2⟩ | ⟨p1, p2⟩ | ⟨p1, p2⟩
        · have hlb : letB c = true := by unfold letB; simp; omega
          have hdb : digB c = false := by unfold digB; simp; omega
          have i0 : decide ((97 : Int) ≤ (c.toNat : Int)) = true := by simp; omega
          have n0 : decide (97 ≤ c.toNat) = true := by simp; omega
          have i1 : decide ((c.toNat : Int) ≤ 122) = true := by simp; omega
          have n1 : decide (c.toNat ≤ 122) = true := by simp; omega
          have i2 : decide ((65 : Int) ≤ (c.toNat : Int)) = true := by simp; omega
          have n2 : decide (65 ≤ c.toNat) = true := by simp; omega
          have i3 : decide ((c.toNat : Int) ≤ 90) = false := by simp; omega
          have n3 : decide (c.toNat ≤ 90) = false := by simp; omega
          have i4 : ((c.toNat : Int) == 95) = false := by simp; omega
          have i5 : decide ((c.toNat : Int) < 48) = false := by simp; omega
          have n5 : decide (c.toNat < 48) = false := by simp; omega
          have i6 : decide ((57 : Int) < (c.toNat : Int)) = true := by simp; omega
          have n6 : decide (57 < c.toNat) = true := by simp; omega
          have HM := Lib.hid (show nmGo (n + 1) (s.data.toList.drop (n + 1)) = R by rw [← HST.out, if_pos (⟨h16, .inl hlb⟩)])
          clear HST hlb hdb
          go_wp2
          go_roundw
          case rel => exact ⟨n + 1, by simp, by omega, (by first | rfl | trivial), HM.out⟩
          case measure => simp only [intOf]; omega
        · have hlb : letB c = true := by unfold letB; simp; omega
          have hdb : digB c = false := by unfold digB; simp; omega
          have i0 : decide ((97 : Int) ≤ (c.toNat : Int)) = false := by simp; omega
          have n0 : decide (97 ≤ c.toNat) = false := by simp; omega
          have i1 : decide ((c.toNat : Int) ≤ 122) = true := by simp; omega
          have n1 : decide (c.toNat ≤ 122) = true := by simp; omega
          have i2 : decide ((65 : Int) ≤ (c.toNat : Int)) = true := by simp; omega
          have n2 : decide (65 ≤ c.toNat) = true := by simp; omega
          have i3 : decide ((c.toNat : Int) ≤ 90) = true := by simp; omega
          have n3 : decide (c.toNat ≤ 90) = true := by simp; omega
          have i4 : ((c.toNat : Int) == 95) = false := by simp; omega
          have i5 : decide ((c.toNat : Int) < 48) = false := by simp; omega
          have n5 : decide (c.toNat < 48) = false := by simp; omega
          have i6 : decide ((57 : Int) < (c.toNat : Int)) = true := by simp; omega
          have n6 : decide (57 < c.toNat) = true := by simp; omega
          have HM := Lib.hid (show nmGo (n + 1) (s.data.toList.drop (n + 1)) = R by rw [← HST.out, if_pos (⟨h16, .inl hlb⟩)])
          clear HST hlb hdb
          go_wp2
          go_roundw
          case rel => exact ⟨n + 1, by simp, by omega, (by first | rfl | trivial), HM.out⟩
          case measure => simp only [intOf]; omega
        · have hlb : letB c = true := by unfold letB; simp; omega
          have hdb : digB c = false := by unfold digB; simp; omega
          have i0 : decide ((97 : Int) ≤ (c.toNat : Int)) = false := by simp; omega
          have n0 : decide (97 ≤ c.toNat) = false := by simp; omega
          have i1 : decide ((c.toNat : Int) ≤ 122) = true := by simp; omega
          have n1 : decide (c.toNat ≤ 122) = true := by simp; omega
          have i2 : decide ((65 : Int) ≤ (c.toNat : Int)) = true := by simp; omega
          have n2 : decide (65 ≤ c.toNat) = true := by simp; omega
          have i3 : decide ((c.toNat : Int) ≤ 90) = false := by simp; omega
          have n3 : decide (c.toNat ≤ 90) = false := by simp; omega
          have i4 : ((c.toNat : Int) == 95) = true := by simp; omega
          have i5 : decide ((c.toNat : Int) < 48) = false := by simp; omega
          have n5 : decide (c.toNat < 48) = false := by simp; omega
          have i6 : decide ((57 : Int) < (c.toNat : Int)) = true := by simp; omega
          have n6 : decide (57 < c.toNat) = true := by simp; omega
          have HM := Lib.hid (show nmGo (n + 1) (s.data.toList.drop (n + 1)) = R by rw [← HST.out, if_pos (⟨h16, .inl hlb⟩)])
          clear HST hlb hdb
          go_wp2
          go_roundw
          case rel => exact ⟨n + 1, by simp, by omega, (by first | rfl | trivial), HM.out⟩
          case measure => simp only [intOf]; omega
        · have hlb : letB c = false := by unfold letB; simp; omega
          have hdb : digB c = false := by unfold digB; simp; omega
          have i0 : decide ((97 : Int) ≤ (c.toNat : Int)) = true := by simp; omega
          have n0 : decide (97 ≤ c.toNat) = true := by simp; omega
          have i1 : decide ((c.toNat : Int) ≤ 122) = false := by simp; omega
          have n1 : decide (c.toNat ≤ 122) = false := by simp; omega
          have i2 : decide ((65 : Int) ≤ (c.toNat : Int)) = true := by simp; omega
          have n2 : decide (65 ≤ c.toNat) = true := by simp; omega
          have i3 : decide ((c.toNat : Int) ≤ 90) = false := by simp; omega
          have n3 : decide (c.toNat ≤ 90) = false := by simp; omega
          have i4 : ((c.toNat : Int) == 95) = false := by simp; omega
          have i5 : decide ((c.toNat : Int) < 48) = false := by simp; omega
          have n5 : decide (c.toNat < 48) = false := by simp; omega
          have i6 : decide ((57 : Int) < (c.toNat : Int)) = true := by simp; omega
          have n6 : decide (57 < c.toNat) = true := by simp; omega
          by_cases hn0 : n = 0
          · have k5 : ((n : Int) == 0) = true := by simp [hn0]
            have HN0 := Lib.hid hn0
            clear hn0
            have HE := Lib.hid (show n = R by rw [← HST.out, if_neg (fun e => by rw [hlb, hdb] at e; simp at e)])
            clear HST hlb hdb
            go_wp2
            go_ret
            exact ⟨by rw [HE.out]; rfl, rfl⟩
          · have k5 : ((n : Int) == 0) = false := by simp; omega
            have HNZ := Lib.hid hn0
            clear hn0
            have HE := Lib.hid (show n = R by rw [← HST.out, if_neg (fun e => by rw [hlb, hdb] at e; simp at e)])
            clear HST hlb hdb
            go_wp2
            go_ret
            exact ⟨by rw [HE.out]; rfl, rfl⟩
        · have hlb : letB c = false := by unfold letB; simp; omega
          have hdb : digB c = false := by unfold digB; simp; omega
          have i0 : decide ((97 : Int) ≤ (c.toNat : Int)) = false := by simp; omega
          have n0 : decide (97 ≤ c.toNat) = false := by simp; omega
          have i1 : decide ((c.toNat : Int) ≤ 122) = true := by simp; omega
          have n1 : decide (c.toNat ≤ 122) = true := by simp; omega
          have i2 : decide ((65 : Int) ≤ (c.toNat : Int)) = true := by simp; omega
          have n2 : decide (65 ≤ c.toNat) = true := by simp; omega
          have i3 : decide ((c.toNat : Int) ≤ 90) = false := by simp; omega
          have n3 : decide (c.toNat ≤ 90) = false := by simp; omega
          have i4 : ((c.toNat : Int) == 95) = false := by simp; omega
          have i5 : decide ((c.toNat : Int) < 48) = false := by simp; omega
          have n5 : decide (c.toNat < 48) = false := by simp; omega
          have i6 : decide ((57 : Int) < (c.toNat : Int)) = true := by simp; omega
          have n6 : decide (57 < c.toNat) = true := by simp; omega
          by_cases hn0 : n = 0
          · have k5 : ((n : Int) == 0) = true := by simp [hn0]
            have HN0 := Lib.hid hn0
            clear hn0
            have HE := Lib.hid (show n = R by rw [← HST.out, if_neg (fun e => by rw [hlb, hdb] at e; simp at e)])
            clear HST hlb hdb
            go_wp2
            go_ret
            exact ⟨by rw [HE.out]; rfl, rfl⟩
          · have k5 : ((n : Int) == 0) = false := by simp; omega
            have HNZ := Lib.hid hn0
            clear hn0
            have HE := Lib.hid (show n = R by rw [← HST.out, if_neg (fun e => by rw [hlb, hdb] at e; simp at e)])
            clear HST hlb hdb
            go_wp2
            go_ret
            exact ⟨by rw [HE.out]; rfl, rfl⟩
        · have hlb : letB c = false := by unfold letB; simp; omega
          have hdb : digB c = false := by unfold digB; simp; omega
          have i0 : decide ((97 : Int) ≤ (c.toNat : Int)) = false := by simp; omega
          have n0 : decide (97 ≤ c.toNat) = false := by simp; omega
          have i1 : decide ((c.toNat : Int) ≤ 122) = true := by simp; omega
          have n1 : decide (c.toNat ≤ 122) = true := by simp; omega
          have i2 : decide ((65 : Int) ≤ (c.toNat : Int)) = true := by simp; omega
          have n2 : decide (65 ≤ c.toNat) = true := by simp; omega
          have i3 : decide ((c.toNat : Int) ≤ 90) = false := by simp; omega
          have n3 : decide (c.toNat ≤ 90) = false := by simp; omega
          have i4 : ((c.toNat : Int) == 95) = false := by simp; omega
          have i5 : decide ((c.toNat : Int) < 48) = false := by simp; omega
          have n5 : decide (c.toNat < 48) = false := by simp; omega
          have i6 : decide ((57 : Int) < (c.toNat : Int)) = true := by simp; omega
          have n6 : decide (57 < c.toNat) = true := by simp; omega
          by_cases hn0 : n = 0
          · have k5 : ((n : Int) == 0) = true := by simp [hn0]
            have HN0 := Lib.hid hn0
            clear hn0
            have HE := Lib.hid (show n = R by rw [← HST.out, if_neg (fun e => by rw [hlb, hdb] at e; simp at e)])
            clear HST hlb hdb
            go_wp2
            go_ret
            exact ⟨by rw [HE.out]; rfl, rfl⟩
          · have k5 : ((n : Int) == 0) = false := by simp; omega
            have HNZ := Lib.hid hn0
            clear hn0
            have HE := Lib.hid (show n = R by rw [← HST.out, if_neg (fun e => by rw [hlb, hdb] at e; simp at e)])
            clear HST hlb hdb
            go_wp2
            go_ret
            exact ⟨by rw [HE.out]; rfl, rfl⟩
        · have hlb : letB c = false := by unfold letB; simp; omega
          have hdb : digB c = false := by unfold digB; simp; omega
          have i0 : decide ((97 : Int) ≤ (c.toNat : Int)) = false := by simp; omega
          have n0 : decide (97 ≤ c.toNat) = false := by simp; omega
          have i1 : decide ((c.toNat : Int) ≤ 122) = true := by simp; omega
          have n1 : decide (c.toNat ≤ 122) = true := by simp; omega
          have i2 : decide ((65 : Int) ≤ (c.toNat : Int)) = false := by simp; omega
          have n2 : decide (65 ≤ c.toNat) = false := by simp; omega
          have i3 : decide ((c.toNat : Int) ≤ 90) = true := by simp; omega
          have n3 : decide (c.toNat ≤ 90) = true := by simp; omega
          have i4 : ((c.toNat : Int) == 95) = false := by simp; omega
          have i5 : decide ((c.toNat : Int) < 48) = false := by simp; omega
          have n5 : decide (c.toNat < 48) = false := by simp; omega
          have i6 : decide ((57 : Int) < (c.toNat : Int)) = true := by simp; omega
          have n6 : decide (57 < c.toNat) = true := by simp; omega
          by_cases hn0 : n = 0
          · have k5 : ((n : Int) == 0) = true := by simp [hn0]
            have HN0 := Lib.hid hn0
            clear hn0
            have HE := Lib.hid (show n = R by rw [← HST.out, if_neg (fun e => by rw [hlb, hdb] at e; simp at e)])
            clear HST hlb hdb
            go_wp2
            go_ret
            exact ⟨by rw [HE.out]; rfl, rfl⟩
          · have k5 : ((n : Int) == 0) = false := by simp; omega
            have HNZ := Lib.hid hn0
            clear hn0
            have HE := Lib.hid (show n = R by rw [← HST.out, if_neg (fun e => by rw [hlb, hdb] at e; simp at e)])
            clear HST hlb hdb
            go_wp2
            go_ret
            exact ⟨by rw [HE.out]; rfl, rfl⟩
        · have hlb : letB c = false := by unfold letB; simp; omega
          have hdb : digB c = true := by unfold digB; simp; omega
          have i0 : decide ((97 : Int) ≤ (c.toNat : Int)) = false := by simp; omega
          have n0 : decide (97 ≤ c.toNat) = false := by simp; omega
          have i1 : decide ((c.toNat : Int) ≤ 122) = true := by simp; omega
          have n1 : decide (c.toNat ≤ 122) = true := by simp; omega
          have i2 : decide ((65 : Int) ≤ (c.toNat : Int)) = false := by simp; omega
          have n2 : decide (65 ≤ c.toNat) = false := by simp; omega
          have i3 : decide ((c.toNat : Int) ≤ 90) = true := by simp; omega
          have n3 : decide (c.toNat ≤ 90) = true := by simp; omega
          have i4 : ((c.toNat : Int) == 95) = false := by simp; omega
          have i5 : decide ((c.toNat : Int) < 48) = false := by simp; omega
          have n5 : decide (c.toNat < 48) = false := by simp; omega
          have i6 : decide ((57 : Int) < (c.toNat : Int)) = false := by simp; omega
          have n6 : decide (57 < c.toNat) = false := by simp; omega
          by_cases hn0 : n = 0
          · have k5 : ((n : Int) == 0) = true := by simp [hn0]
            have HN0 := Lib.hid hn0
            clear hn0
            have HE := Lib.hid (show n = R by rw [← HST.out, if_neg (fun e => by rw [hlb] at e; simp [HN0.out] at e)])
            clear HST hlb hdb
            go_wp2
            go_ret
            exact ⟨by rw [HE.out]; rfl, rfl⟩
          · have k5 : ((n : Int) == 0) = false := by simp; omega
            have HNZ := Lib.hid hn0
            clear hn0
            have HM := Lib.hid (show nmGo (n + 1) (s.data.toList.drop (n + 1)) = R by rw [← HST.out, if_pos (⟨h16, .inr ⟨HNZ.out, hdb⟩⟩)])
            clear HST hlb hdb
            go_wp2
            go_roundw
            case rel => exact ⟨n + 1, by simp, by omega, (by first | rfl | trivial), HM.out⟩
            case measure => simp only [intOf]; omega
        · have hlb : letB c = false := by unfold letB; simp; omega
          have hdb : digB c = false := by unfold digB; simp; omega
          have i0 : decide ((97 : Int) ≤ (c.toNat : Int)) = false := by simp; omega
          have n0 : decide (97 ≤ c.toNat) = false := by simp; omega
          have i1 : decide ((c.toNat : Int) ≤ 122) = true := by simp; omega
          have n1 : decide (c.toNat ≤ 122) = true := by simp; omega
          have i2 : decide ((65 : Int) ≤ (c.toNat : Int)) = false := by simp; omega
          have n2 : decide (65 ≤ c.toNat) = false := by simp; omega
          have i3 : decide ((c.toNat : Int) ≤ 90) = true := by simp; omega
          have n3 : decide (c.toNat ≤ 90) = true := by simp; omega
          have i4 : ((c.toNat : Int) == 95) = false := by simp; omega
          have i5 : decide ((c.toNat : Int) < 48) = true := by simp; omega
          have n5 : decide (c.toNat < 48) = true := by simp; omega
          have i6 : decide ((57 : Int) < (c.toNat : Int)) = false := by simp; omega
          have n6 : decide (57 < c.toNat) = false := by simp; omega
          by_cases hn0 : n = 0
          · have k5 : ((n : Int) == 0) = true := by simp [hn0]
            have HN0 := Lib.hid hn0
            clear hn0
            have HE := Lib.hid (show n = R by rw [← HST.out, if_neg (fun e => by rw [hlb, hdb] at e; simp at e)])
            clear HST hlb hdb
            go_wp2
            go_ret
            exact ⟨by rw [HE.out]; rfl, rfl⟩
          · have k5 : ((n : Int) == 0) = false := by simp; omega
            have HNZ := Lib.hid hn0
            clear hn0
            have HE := Lib.hid (show n = R by rw [← HST.out, if_neg (fun e => by rw [hlb, hdb] at e; simp at e)])
            clear HST hlb hdb
            go_wp2
            go_ret
            exact ⟨by rw [HE.out]; rfl, rfl⟩
      · have k3 : decide ((n : Int) < 16) = false := by simp; omega
        have HE := Lib.hid (show n = R by rw [← HST.out, if_neg (fun e => h16 e.1)])
        clear HST
        go_wp2
        go_ret
        exact ⟨by rw [HE.out]; rfl, rfl⟩
    · have k2 : decide ((n : Int) < (s.size : Int)) = false := by simp; omega
      have HE := Lib.hid (show n = R by rw [← HG.out, drop_end s n (by omega)]; rfl)
      go_wp2
      go_ret
      exact ⟨by rw [HE.out]; rfl, rfl⟩
end Go.Proofs.YtdelpialeajajaaGreatDoor

/- The document's reader: needs, name. -/
namespace Go.Proofs.YtdelpialeajajaaGreatDoor
open Go Go.RowKit
set_option maxRecDepth 10000

/-- the byte at hand -/
def byteAt (s : ByteArray) (k : Nat) : Option UInt8 := s.data.toList[k]?
theorem byteAt_lt {s : ByteArray} {k : Nat} (h : k < s.size) : byteAt s k = some s[k] := by
  unfold byteAt
  rw [List.getElem?_eq_getElem (by simpa using h), getElem_toList s k h]
theorem byteAt_end {s : ByteArray} {k : Nat} (h : ¬ k < s.size) : byteAt s k = none := List.getElem?_eq_none (by simp; omega)

def needsS (s : ByteArray) (x : Sc) (c : UInt8) : Sc := if byteAt s x.i = some c then { x with i := x.i + 1 } else faultS x 3 x.i
def nameS (s : ByteArray) (x : Sc) : Sc :=
  { (if nmB (s.data.toList.drop x.i) = 0 then faultS x 3 x.i else x) with i := x.i + nmB (s.data.toList.drop x.i) }
def nameT (s : ByteArray) (k : Nat) : Wd := (s.data.toList.drop k).take (nmB (s.data.toList.drop k))

theorem faultS_i (x : Sc) (e a : Nat) : (faultS x e a).i = x.i := by unfold faultS; split <;> rfl
theorem faultS_out (x : Sc) (e a : Nat) : (faultS x e a).out = x.out ∧ (faultS x e a).opn = x.opn := by unfold faultS; split <;> exact ⟨rfl, rfl⟩

set_option maxHeartbeats 4000000 in
theorem scan_needs (p : Nat) (s : ByteArray) (x : Sc) (c : UInt8) (w : World) (h : ScanAt p s x w) :
    Calls Tryz.prog 106 #[.pointer (some ⟨p, 0, none⟩), .int .u8 (c.toNat : Nat)] w (ScanB p s (.tuple #[]) (needsS s x c) w) := by
  have HH := Lib.hid h
  have HSD := Lib.hid (h.below (Below.refl _ _).drew)
  have HBD := Lib.hid (show Fr p w w.drew from (Fr.refl _ _).drew)
  obtain ⟨k, hk⟩ : ∃ k, x.i = k := ⟨_, rfl⟩
  have c0 := h.c0
  have c1 := h.c1
  have z1 := h.z 1
  have hsz := h.size
  have hh := h.here
  have hn : needsS s x c = if byteAt s k = some c then { x with i := k + 1 } else faultS x 3 k := by unfold needsS; rw [hk]
  rw [hk] at c1 hh
  have hS0 : w.drew.cell? ⟨p, 0, none⟩ = some (.string s) ∧ w.drew.cell? ⟨p, 1, none⟩ = some (.int .i64 (k : Nat)) := ⟨c0, c1⟩
  have HN := Lib.hid hn
  have HK := Lib.hid hk
  clear h hn hk
  by_cases hlt : k < s.size
  · have k1 : (k : Int) < (s.size : Int) := by omega
    have k2 : decide ((s.size : Int) ≤ (k : Int)) = false := by simp; omega
    have k2' : decide (s.size ≤ k) = false := by simp; omega
    obtain ⟨d, hd⟩ : ∃ d, s[k] = d := ⟨_, rfl⟩
    have HBA := Lib.hid (show byteAt s k = some d by rw [byteAt_lt hlt, hd])
    by_cases hdc : d = c
    · subst hdc
      have j1 : ((d.toNat : Int) != (d.toNat : Int)) = false := by simp
      have HF := Lib.hid (show needsS s x d = { x with i := k + 1 } by rw [HN.out, if_pos HBA.out])
      go_enter Tryz.func106, Tryz.ntmps106
      go_wp2_with fail
      refine wp_region_takes (fun W' : World => W'.cell? ⟨p, 0, none⟩ = some (.string s) ∧ W'.cell? ⟨p, 1, none⟩ = some (.int .i64 (k : Nat))) [0, 1, 2, 3, 4, 5, 6, 7, 8, 9, 10, 11, 12, 13, 14, 15, 16, 17, 18, 19, 20, 21, 22] 0 (by intro _ _ d _ _ h; cases d <;> exact h) (by kernel_rfl) (by kernel_rfl) hS0 ?_
      (iterate 23 (first | (refine takes_yes (v := ?_) rfl (by rfl) ?_ ?_; rotate_left; (focus ((intro w' hS'; (try dsimp only at hS'); go_simp; try (with_reducible rfl)); done)); (try simp only [Act.put, List.setIfInBounds_toArray, List.set_cons_zero, List.set_cons_succ])) | (refine takes_no rfl (by rfl) ?_; (try simp only [Act.put, List.setIfInBounds_toArray, List.set_cons_zero, List.set_cons_succ]))))
      refine takes_nil ?_
      refine wpAnyH_done (by kernel_rfl) ?_ _
      go_wp2
      refine bodyPost_ret (v := .tuple #[]) ?_ rfl ?_
      · simp [results, Tryz.results106, go_sem]
      rw [HF.out]
      have hst := HSD.out.put1 (k + 1) (by omega)
      exact ⟨rfl, by rw [show ((k : Int) + 1) = ((k + 1 : Nat) : Int) from by omega]; first | exact hst | exact (HH.out.put1 (k + 1) (by omega)).below (Below.refl _ _).drew, by first | exact fr_put HBD.out | exact (fr_put (Fr.refl _ _)).drew⟩
    · have j1 : ((d.toNat : Int) != (c.toNat : Int)) = true := by
        have := byte_ne hdc
        simpa using this
      have HF := Lib.hid (show needsS s x c = faultS x 3 k by rw [HN.out, if_neg (fun e => by rw [HBA.out] at e; exact hdc (Option.some.inj e))])
      clear hdc
      go_enter Tryz.func106, Tryz.ntmps106
      go_wp2_with fail
      refine wp_region_takes (fun W' : World => W'.cell? ⟨p, 0, none⟩ = some (.string s) ∧ W'.cell? ⟨p, 1, none⟩ = some (.int .i64 (k : Nat))) [0, 1, 2, 3, 4, 5, 6, 7, 8, 9, 10, 11, 12, 13, 14, 15, 16, 17, 18, 19, 20, 21, 22] 0 (by intro _ _ d _ _ h; cases d <;> exact h) (by kernel_rfl) (by kernel_rfl) hS0 ?_
      (iterate 23 (first | (refine takes_yes (v := ?_) rfl (by rfl) ?_ ?_; rotate_left; (focus ((intro w' hS'; (try dsimp only at hS'); go_simp; try (with_reducible rfl)); done)); (try simp only [Act.put, List.setIfInBounds_toArray, List.set_cons_zero, List.set_cons_succ])) | (refine takes_no rfl (by rfl) ?_; (try simp only [Act.put, List.setIfInBounds_toArray, List.set_cons_zero, List.set_cons_succ]))))
      refine takes_nil ?_
      refine wpAnyH_done (by kernel_rfl) ?_ _
      go_wp2_with fail
      refine (scan_fault p s x 3 k w.drew HSD.out).mono ?_
      rintro e w2 ⟨rfl, hs2, hb2⟩
      have HS2 := Lib.hid hs2
      have hbf := Fr.trans HBD.out hb2
      clear hs2
      go_wp2
      refine bodyPost_ret (v := .tuple #[]) ?_ rfl ?_
      · simp [results, Tryz.results106, go_sem]
      rw [HF.out]
      exact ⟨rfl, HS2.out, hbf⟩
  · have k2 : decide ((s.size : Int) ≤ (k : Int)) = true := by simp; omega
    have k2' : decide (s.size ≤ k) = true := by simp; omega
    have HF := Lib.hid (show needsS s x c = faultS x 3 k by rw [HN.out, if_neg (fun e => by rw [byteAt_end hlt] at e; cases e)])
    go_enter Tryz.func106, Tryz.ntmps106
    go_wp2_with fail
    refine wp_region_takes (fun W' : World => W'.cell? ⟨p, 0, none⟩ = some (.string s) ∧ W'.cell? ⟨p, 1, none⟩ = some (.int .i64 (k : Nat))) [0, 1, 2, 3, 4, 5, 6, 7, 8, 9, 10, 11, 12, 13, 14, 15, 16, 17, 18, 19, 20, 21, 22] 0 (by intro _ _ d _ _ h; cases d <;> exact h) (by kernel_rfl) (by kernel_rfl) hS0 ?_
    (iterate 23 (first | (refine takes_yes (v := ?_) rfl (by rfl) ?_ ?_; rotate_left; (focus ((intro w' hS'; (try dsimp only at hS'); go_simp; try (with_reducible rfl)); done)); (try simp only [Act.put, List.setIfInBounds_toArray, List.set_cons_zero, List.set_cons_succ])) | (refine takes_no rfl (by rfl) ?_; (try simp only [Act.put, List.setIfInBounds_toArray, List.set_cons_zero, List.set_cons_succ]))))
    refine takes_nil ?_
    refine wpAnyH_done (by kernel_rfl) ?_ _
    go_wp2_with fail
    refine (scan_fault p s x 3 k w.drew HSD.out).mono ?_
    rintro e w2 ⟨rfl, hs2, hb2⟩
    have HS2 := Lib.hid hs2
    have hbf := Fr.trans HBD.out hb2
    clear hs2
    go_wp2
    refine bodyPost_ret (v := .tuple #[]) ?_ rfl ?_
    · simp [results, Tryz.results106, go_sem]
    rw [HF.out]
    exact ⟨rfl, HS2.out, hbf⟩
end Go.Proofs.YtdelpialeajajaaGreatDoor

/- The document's reader: name. -/
namespace Go.Proofs.YtdelpialeajajaaGreatDoor
open Go Go.RowKit
set_option maxRecDepth 10000

theorem nmB_le (l : List UInt8) : nmB l ≤ l.length ∧ nmB l ≤ 16 := by
  have h := nmGo_le l 0
  exact ⟨by have := h.2.1; unfold nmB; omega, h.2.2 (by omega)⟩

theorem extract_piece (s : ByteArray) (k n : Nat) : s.extract k (k + n) = ⟨((s.data.toList.drop k).take n).toArray⟩ := by
  rw [extract_eq, Nat.add_sub_cancel_left]

set_option maxHeartbeats 4000000 in
theorem scan_name (p : Nat) (s : ByteArray) (x : Sc) (w : World) (h : ScanAt p s x w) :
    Calls Tryz.prog 105 #[.pointer (some ⟨p, 0, none⟩)] w (ScanB p s (strv (nameT s x.i)) (nameS s x) w) := by
  have HH := Lib.hid h
  have hsz := h.size
  obtain ⟨k, hk⟩ : ∃ k, x.i = k := ⟨_, rfl⟩
  have hh := h.here
  have c0 := h.c0
  have c1 := h.c1
  rw [hk] at hh c1 ⊢
  obtain ⟨n, hn⟩ : ∃ n, nmB (s.data.toList.drop k) = n := ⟨_, rfl⟩
  have hnl := nmB_le (s.data.toList.drop k)
  rw [hn, List.length_drop, size_toList] at hnl
  obtain ⟨j, hj⟩ : ∃ j, k + n = j := ⟨_, rfl⟩
  have hnm := fun W => named_any (s.extract k s.size) W (by rw [ByteArray.size_extract]; omega)
  rw [extract_drop, toList_mk, hn] at hnm
  have HNM := Lib.hid hnm
  have HT := Lib.hid (show nameT s k = (s.data.toList.drop k).take n by unfold nameT; rw [hn])
  have HNS := Lib.hid (show nameS s x = { (if n = 0 then faultS x 3 k else x) with i := j } by unfold nameS; rw [hk, hn, hj])
  have hS0 : w.drew.cell? ⟨p, 0, none⟩ = some (.string s) ∧ w.drew.cell? ⟨p, 1, none⟩ = some (.int .i64 (k : Nat)) := ⟨c0, c1⟩
  have k1 : (k : Int) ≤ (s.size : Int) := by omega
  have hje : s.extract k s.size = ⟨(s.data.toList.drop k).toArray⟩ := extract_drop s k
  have q1 : (j : Int) - (n : Int) = (k : Int) := by omega
  have q2 : (k : Int) + (n : Int) = (j : Int) := by omega
  have q3 : (j : Int) ≤ (s.size : Int) := by omega
  have q4 : (k : Int) ≤ (j : Int) := by omega
  have q5 : IntKind.i64.wrap (k : Int) = (k : Int) := by simp [IntKind.wrap, IntKind.signed, IntKind.bits]; omega
  have HXI := Lib.hid hk
  have HPC := Lib.hid (show s.extract k j = ⟨((s.data.toList.drop k).take n).toArray⟩ by rw [← hj]; exact extract_piece s k n)
  clear h hk hn hnm
  go_enter Tryz.func105, Tryz.ntmps105
  go_wp2_with fail
  refine wp_region_takes (fun W' : World => W'.cell? ⟨p, 0, none⟩ = some (.string s) ∧ W'.cell? ⟨p, 1, none⟩ = some (.int .i64 (k : Nat))) [0, 1, 2, 3, 4, 5, 6, 7, 8] 2 (by intro _ _ d _ _ h; cases d <;> exact h) (by kernel_rfl) (by kernel_rfl) hS0 ?_
  (iterate 9 (first | (refine takes_yes (v := ?_) rfl (by rfl) ?_ ?_; rotate_left; (focus ((intro w' hS'; (try dsimp only at hS'); go_simp; try (with_reducible rfl)); done)); (try simp only [Act.put, List.setIfInBounds_toArray, List.set_cons_zero, List.set_cons_succ])) | (refine takes_no rfl (by rfl) ?_; (try simp only [Act.put, List.setIfInBounds_toArray, List.set_cons_zero, List.set_cons_succ]))))
  refine takes_nil ?_
  refine wpAnyH_only 9 (by kernel_rfl) rfl (fun K hK => ?_)
  go_simp
  refine (HNM.out w.drew).mono ?_
  rintro e w1 ⟨rfl, rfl⟩
  refine hK.out _ _ hS0 (fun _ => ?_)
  clear hK K
  refine wpAnyH_more [10] 0 rfl (by intro _ _ d _ _ h; cases d <;> exact h) (by kernel_rfl) (by kernel_rfl) hS0 ?_
  (iterate 1 (first | (refine takes_yes (v := ?_) rfl (by rfl) ?_ ?_; rotate_left; (focus ((intro w' hS'; (try dsimp only at hS'); go_simp; try (with_reducible rfl)); done)); (try simp only [Act.put, List.setIfInBounds_toArray, List.set_cons_zero, List.set_cons_succ])) | (refine takes_no rfl (by rfl) ?_; (try simp only [Act.put, List.setIfInBounds_toArray, List.set_cons_zero, List.set_cons_succ]))))
  refine takes_nil ?_
  refine wpAnyH_done (by kernel_rfl) ?_ _
  by_cases hn0 : n = 0
  · have j1 : ((n : Int) == 0) = true := by simp [hn0]
    have HY := Lib.hid (show nameS s x = { faultS x 3 k with i := j } by rw [HNS.out, if_pos hn0])
    have HN0 := Lib.hid hn0
    clear hn0
    have HSD := Lib.hid (HH.out.below (Below.refl _ _).drew)
    have e1 : w.drew.cell? ⟨p, 1, none⟩ = some (.int .i64 (k : Nat)) := c1
    go_wp2_with fail
    refine (scan_fault p s x 3 k w.drew HSD.out).mono ?_
    rintro e w2 ⟨rfl, hs2, hb2⟩
    have HSA := Lib.hid hs2
    have HBA := Lib.hid (Fr.trans (show Fr p w w.drew from (Fr.refl _ _).drew) hb2)
    have HYI := Lib.hid (show (faultS x 3 k).i = k by rw [faultS_i]; exact HXI.out)
    clear hs2 hb2 hS0 c0 c1 e1
    have a1 := HSA.out.c1
    have az := HSA.out.z 1
    rw [HYI.out] at a1
    have hst := HSA.out.put1 j (by omega)
    have HST := Lib.hid hst
    have b0 := hst.c0
    have b1 := hst.c1
    dsimp only at b1
    have hbst : Fr p w (w2.setCell ⟨p, 1, none⟩ (.int .i64 (j : Nat))) := fr_put HBA.out
    obtain ⟨wb, hwb⟩ : ∃ wb, w2.setCell ⟨p, 1, none⟩ (.int .i64 (j : Nat)) = wb := ⟨_, rfl⟩
    rw [hwb] at HST b0 b1 hbst
    have hS2 : wb.drew.cell? ⟨p, 0, none⟩ = some (.string s) ∧ wb.drew.cell? ⟨p, 1, none⟩ = some (.int .i64 (j : Nat)) := ⟨b0, b1⟩
    clear hst
    go_wp2_with fail
    try rw [hwb]
    clear hwb
    refine wp_region_takes (fun W' : World => W'.cell? ⟨p, 0, none⟩ = some (.string s) ∧ W'.cell? ⟨p, 1, none⟩ = some (.int .i64 (j : Nat))) [0, 1, 2, 3, 4, 5, 6, 7, 8, 9, 10, 11, 12, 13, 14, 15] 0 (by intro _ _ d _ _ h; cases d <;> exact h) (by kernel_rfl) (by kernel_rfl) hS2 ?_
    (iterate 16 (first | (refine takes_yes (v := ?_) rfl (by rfl) ?_ ?_; rotate_left; (focus ((intro w' hS'; (try dsimp only at hS'); go_simp; try (with_reducible rfl)); done)); (try simp only [Act.put, List.setIfInBounds_toArray, List.set_cons_zero, List.set_cons_succ])) | (refine takes_no rfl (by rfl) ?_; (try simp only [Act.put, List.setIfInBounds_toArray, List.set_cons_zero, List.set_cons_succ]))))
    refine takes_nil ?_
    refine wpAnyH_done (by kernel_rfl) ?_ _
    go_wp2
    go_ret
    refine ⟨?_, ?_, hbst.drew⟩
    · rw [HT.out]
      show Ending.returned (Value.string (s.extract k j)) = _
      rw [HPC.out]
    · rw [HY.out]
      exact HST.out.below (Below.refl _ _).drew
  · have j1 : ((n : Int) == 0) = false := by simp; omega
    have HY := Lib.hid (show nameS s x = { x with i := j } by rw [HNS.out, if_neg hn0])
    clear hn0
    have HSA := Lib.hid (HH.out.below (Below.refl _ _).drew)
    have HBA := Lib.hid (show Fr p w w.drew from (Fr.refl _ _).drew)
    have HYI := HXI
    clear hS0 c0 c1
    obtain ⟨wd, hwd⟩ : ∃ wd, w.drew = wd := ⟨_, rfl⟩
    rw [hwd] at HSA HBA
    try rw [hwd]
    clear hwd
    have a1 := HSA.out.c1
    have az := HSA.out.z 1
    rw [HYI.out] at a1
    have hst := HSA.out.put1 j (by omega)
    have HST := Lib.hid hst
    have b0 := hst.c0
    have b1 := hst.c1
    dsimp only at b1
    have hbst : Fr p w (wd.setCell ⟨p, 1, none⟩ (.int .i64 (j : Nat))) := fr_put HBA.out
    obtain ⟨wb, hwb⟩ : ∃ wb, wd.setCell ⟨p, 1, none⟩ (.int .i64 (j : Nat)) = wb := ⟨_, rfl⟩
    rw [hwb] at HST b0 b1 hbst
    have hS2 : wb.drew.cell? ⟨p, 0, none⟩ = some (.string s) ∧ wb.drew.cell? ⟨p, 1, none⟩ = some (.int .i64 (j : Nat)) := ⟨b0, b1⟩
    clear hst
    go_wp2_with fail
    try rw [hwb]
    clear hwb
    refine wp_region_takes (fun W' : World => W'.cell? ⟨p, 0, none⟩ = some (.string s) ∧ W'.cell? ⟨p, 1, none⟩ = some (.int .i64 (j : Nat))) [0, 1, 2, 3, 4, 5, 6, 7, 8, 9, 10, 11, 12, 13, 14, 15] 0 (by intro _ _ d _ _ h; cases d <;> exact h) (by kernel_rfl) (by kernel_rfl) hS2 ?_
    (iterate 16 (first | (refine takes_yes (v := ?_) rfl (by rfl) ?_ ?_; rotate_left; (focus ((intro w' hS'; (try dsimp only at hS'); go_simp; try (with_reducible rfl)); done)); (try simp only [Act.put, List.setIfInBounds_toArray, List.set_cons_zero, List.set_cons_succ])) | (refine takes_no rfl (by rfl) ?_; (try simp only [Act.put, List.setIfInBounds_toArray, List.set_cons_zero, List.set_cons_succ]))))
    refine takes_nil ?_
    refine wpAnyH_done (by kernel_rfl) ?_ _
    go_wp2
    go_ret
    refine ⟨?_, ?_, hbst.drew⟩
    · rw [HT.out]
      show Ending.returned (Value.string (s.extract k j)) = _
      rw [HPC.out]
    · rw [HY.out]
      exact HST.out.below (Below.refl _ _).drew
end Go.Proofs.YtdelpialeajajaaGreatDoor
