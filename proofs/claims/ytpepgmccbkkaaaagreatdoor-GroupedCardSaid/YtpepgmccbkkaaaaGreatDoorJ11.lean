import Derived.Test.YtpepgmccbkkaaaaGreatDoorJ10
import Derived.StillTailTactics
import Derived.Deep.RegionWith
import Derived.OwnWalk

/- phrasesref's (Num).Written: a number as a locale writes it. -/
namespace Go.Proofs.YtpepgmccbkkaaaaGreatDoor
open Go Go.RowKit
set_option maxRecDepth 10000

/-- digits with groups, from the right end: the first of n digits, the others of nx -/
def grpL (pts : List (List UInt8)) (g : List UInt8) (nx : Nat) (w : List UInt8) (n : Nat) : List UInt8 :=
  if h : 0 < n ∧ n < w.length then grpL pts g nx (w.take (w.length - n)) nx ++ g ++ shownL pts (w.drop (w.length - n)) else shownL pts w
  termination_by w.length
  decreasing_by simp; omega

theorem grpL_step {pts : List (List UInt8)} {g : List UInt8} {nx : Nat} {w : List UInt8} {n : Nat} (h : 0 < n ∧ n < w.length) :
    grpL pts g nx w n = grpL pts g nx (w.take (w.length - n)) nx ++ g ++ shownL pts (w.drop (w.length - n)) := by rw [grpL, dif_pos h]
theorem grpL_end {pts : List (List UInt8)} {g : List UInt8} {nx : Nat} {w : List UInt8} {n : Nat} (h : ¬ (0 < n ∧ n < w.length)) :
    grpL pts g nx w n = shownL pts w := by rw [grpL, dif_neg h]

/-- a code point's bytes -/
def enc (r : Int) : List UInt8 := (Utf8.encode r).data.toList

theorem enc_length (r : Int) : (enc r).length ≤ 4 ∧ (Utf8.encode r).size ≤ 4 := by
  have h : (Utf8.encode r).size ≤ 4 := by
    unfold Utf8.encode
    simp only []
    generalize (if Utf8.valid r = true then r.toNat else Utf8.runeError) = x
    split
    · exact (by decide : 1 ≤ 4)
    split
    · exact (by decide : 2 ≤ 4)
    split
    · exact (by decide : 3 ≤ 4)
    · exact (by decide : 4 ≤ 4)
  exact ⟨by simpa [enc] using h, h⟩

/-- a number as a locale writes it -/
def writtenL (below : Bool) (whole frac : List UInt8) (pts : List (List UInt8)) (mi po gr : Int) (fi ne : Nat) : List UInt8 :=
  (if below then enc mi else []) ++ grpL pts (enc gr) (if ne = 0 then fi else ne) whole (if gr = 0 then 0 else fi) ++
    (if frac = [] then [] else enc po ++ shownL pts frac)

def WrittenPost (t : List UInt8) (w : World) (e : Ending) (w' : World) : Prop :=
  e = .returned (strv t) ∧ Below w.heap.size w w'

/-- the cells of a locale in a block -/
structure LocAt (w : World) (b : Nat) (c o : Value) (mi po gr fi ne : Int) (dg : ByteArray) : Prop where
  c0 : w.cell? ⟨b, 0, none⟩ = some c
  c1 : w.cell? ⟨b, 1, none⟩ = some o
  c2 : w.cell? ⟨b, 2, none⟩ = some (.int .i32 mi)
  c3 : w.cell? ⟨b, 3, none⟩ = some (.int .i32 po)
  c4 : w.cell? ⟨b, 4, none⟩ = some (.int .i32 gr)
  c5 : w.cell? ⟨b, 5, none⟩ = some (.int .u8 fi)
  c6 : w.cell? ⟨b, 6, none⟩ = some (.int .u8 ne)
  c7 : w.cell? ⟨b, 7, none⟩ = some (.string dg)

theorem LocAt.below {w w' : World} {B b : Nat} {c o : Value} {mi po gr fi ne : Int} {dg : ByteArray} (h : LocAt w b c o mi po gr fi ne dg) (hb : Below B w w') (hlt : b < B) : LocAt w' b c o mi po gr fi ne dg :=
  ⟨(hb.cell (p := ⟨b, 0, none⟩) hlt).trans h.c0, (hb.cell (p := ⟨b, 1, none⟩) hlt).trans h.c1, (hb.cell (p := ⟨b, 2, none⟩) hlt).trans h.c2, (hb.cell (p := ⟨b, 3, none⟩) hlt).trans h.c3,
   (hb.cell (p := ⟨b, 4, none⟩) hlt).trans h.c4, (hb.cell (p := ⟨b, 5, none⟩) hlt).trans h.c5, (hb.cell (p := ⟨b, 6, none⟩) hlt).trans h.c6, (hb.cell (p := ⟨b, 7, none⟩) hlt).trans h.c7⟩

theorem LocAt.drew {w : World} {b : Nat} {c o : Value} {mi po gr fi ne : Int} {dg : ByteArray} (h : LocAt w b c o mi po gr fi ne dg) : LocAt w.drew b c o mi po gr fi ne dg :=
  ⟨h.c0, h.c1, h.c2, h.c3, h.c4, h.c5, h.c6, h.c7⟩

/-- the size of a text in a slot -/
def szOf : Value → Nat | .string v => v.size | _ => 0

/-- the loop's relation -/
def WrRel (s : ByteArray) (pts : List (List UInt8)) (gr : Int) (fi nx : Nat) (B : Nat) (w0 : World) (t u n : Value) (wr : World) : Prop :=
  ∃ (tt : List UInt8) (v : ByteArray) (k : Nat), t = strv tt ∧ u = .string v ∧ n = .int .i64 k ∧ v.size ≤ s.size ∧ v.data.toList.all isDig = true ∧ k ≤ 255 ∧ tt.length + 8 * v.size ≤ 8 * s.size ∧
    (0 < k → 0 < fi) ∧ grpL pts (enc gr) nx s.data.toList (if gr = 0 then 0 else fi) = grpL pts (enc gr) nx v.data.toList (if gr = 0 then 0 else k) ++ tt ∧ Below B w0 wr

theorem toList_eq (s : ByteArray) : s.toList = s.data.toList := by
  exact Go.ByteArray.toList_eq s

theorem empty_of {s : ByteArray} (h : (!s.toList.isEmpty) = false) : s.data.toList = [] := by
  rw [toList_eq] at h
  cases hs : s.data.toList with
  | nil => rfl
  | cons a l => rw [hs] at h; simp at h

theorem nonempty_of {s : ByteArray} (h : (!s.toList.isEmpty) = true) : s.data.toList ≠ [] := by
  rw [toList_eq] at h
  intro h0
  rw [h0] at h; simp at h

theorem enc_app (r : Int) (a b : List UInt8) : Utf8.encode r ++ ByteArray.mk a.toArray ++ ByteArray.mk b.toArray = ByteArray.mk (enc r ++ a ++ b).toArray := by
  rw [← append_mk, ← append_mk]; rfl

theorem wrRel_step {s : ByteArray} {pts : List (List UInt8)} {gr : Int} {fi ne nx B : Nat} {w0 w1 : World} {tt : List UInt8} {v : ByteArray} {k : Nat} (hp : ∀ p ∈ pts, p.length ≤ 4)
    (hv : v.size ≤ s.size) (hvd : v.data.toList.all isDig = true) (htt : tt.length + 8 * v.size ≤ 8 * s.size) (hnx : nx = if ne = 0 then fi else ne) (hne : ne ≤ 255) (hfi : fi ≤ 255)
    (g1 : 0 < k) (g2 : gr ≠ 0) (g3 : k < v.size) (hk0 : 0 < k → 0 < fi)
    (hG : grpL pts (enc gr) nx s.data.toList (if gr = 0 then 0 else fi) = grpL pts (enc gr) nx v.data.toList (if gr = 0 then 0 else k) ++ tt) (hb : Below B w0 w1) :
    WrRel s pts gr fi nx B w0 (strv (enc gr ++ shownL pts (v.data.toList.drop (v.size - k)) ++ tt)) (.string (v.extract 0 (v.size - k))) (.int .i64 (nx : Int)) w1 := by
  have e1 : (v.extract 0 (v.size - k)).data.toList = v.data.toList.take (v.size - k) := by rw [extract_take]
  have e2 : (v.extract 0 (v.size - k)).size = v.size - k := by rw [← size_toList, e1]; simp
  have hl := shownL_length pts hp (v.data.toList.drop (v.size - k))
  have hl2 : (v.data.toList.drop (v.size - k)).length = k := by simp; omega
  have hg := (enc_length gr).1
  refine ⟨_, _, nx, rfl, rfl, rfl, by omega, ?_, ?_, ?_, ?_, ?_, hb⟩
  · rw [e1]; exact List.all_eq_true.2 fun x hx => List.all_eq_true.1 hvd x (List.mem_of_mem_take hx)
  · rw [hnx]; split <;> omega
  · simp only [List.length_append]; omega
  · intro _; exact hk0 g1
  · rw [hG, if_neg g2, if_neg g2, e1, grpL_step (w := v.data.toList) ⟨g1, by simpa using g3⟩, size_toList]
    simp

set_option maxRecDepth 100000 in
set_option maxHeartbeats 800000 in
theorem written_any (below : Bool) (s f : ByteArray) (c o : Value) (mi po gr : Int) (fi ne : Nat) (dg : ByteArray) (w : World) (hs : s.size ≤ 100000) (hf : f.size ≤ 100000) (hd : dg.size ≤ 1000000)
    (hfi : fi ≤ 255) (hne : ne ≤ 255)
    (hdig : s.data.toList.all isDig = true) (hdig2 : f.data.toList.all isDig = true) (h10 : (ptsL dg.data.toList).1 = [] ∨ (ptsL dg.data.toList).1.length = 10) :
    Calls Tryz.prog 16 #[.agg #[.bool below, .string s, .string f], locv c o mi po gr fi ne dg] w
      (WrittenPost (writtenL below s.data.toList f.data.toList (ptsL dg.data.toList).1 mi po gr fi ne) w) := by
  obtain ⟨nx, hnx⟩ : ∃ nx, nx = if ne = 0 then fi else ne := ⟨_, rfl⟩
  have Hnx := Lib.hid hnx
  clear hnx
  go_enter Tryz.func16, Tryz.ntmps16
  go_wp2
  have F : ∃ W, W = (w.alloc (.cells #[.bool below, .string s, .string f] 41)).alloc (.cells #[c, o, .int .i32 mi, .int .i32 po, .int .i32 gr, .int .u8 fi, .int .u8 ne, .string dg] 25) ∧
      Below w.heap.size w W ∧ W.heap.size = w.heap.size + 2 ∧ LocAt W (w.heap.size + 1) c o mi po gr fi ne dg ∧
      W.cell? ⟨w.heap.size, 0, none⟩ = some (.bool below) ∧ W.cell? ⟨w.heap.size, 2, none⟩ = some (.string f) :=
    ⟨_, rfl, ((Below.refl _ _).alloc (Nat.le_refl _) _).alloc (by simp) _, by simp, ⟨by go_simp, by go_simp, by go_simp, by go_simp, by go_simp, by go_simp, by go_simp, by go_simp⟩, by go_simp, by go_simp⟩
  obtain ⟨W, hW, hb, hsz, hL, hx0, hx2⟩ := F
  rw [← hW]
  clear hW
  go_loopw [5, 6, 7] (fun t u n wr => WrRel s (ptsL dg.data.toList).1 gr fi nx W.heap.size W t u n wr) (fun _ u _ _ => szOf u)
  case atStart => exact ⟨[], s, fi, rfl, rfl, rfl, Nat.le_refl _, hdig, hfi, by simp, fun h => h, by simp, Below.refl _ _⟩
  case round =>
    obtain ⟨tt, v, k, rfl, rfl, rfl, hv, hvd, hk, htt, hk0, hG, hbr⟩ := hrel
    have HG := Lib.hid hG
    clear hG
    have hLr := hL.below hbr (by omega)
    have k0 := hLr.c0
    have k1 := hLr.c1
    have k2 := hLr.c2
    have k3 := hLr.c3
    have k4 := hLr.c4
    have k5 := hLr.c5
    have k6 := hLr.c6
    have k7 := hLr.c7
    by_cases hgo : 0 < k ∧ gr ≠ 0 ∧ k < v.size
    · obtain ⟨g1, g2, g3⟩ := hgo
      have g2' : (gr != 0) = true := by simpa using g2
      go_wp2_with fail
      have e1 : (v.extract (v.size - k) v.size).data.toList = v.data.toList.drop (v.size - k) := by rw [extract_drop]
      have hsh : ∀ (W' : World), True → Calls Tryz.prog 25 #[.string (v.extract (v.size - k) v.size), locv c o mi po gr fi ne dg] W' (ShownPost (ptsL dg.data.toList).1 (v.data.toList.drop (v.size - k)) W') := by
        intro W' _
        rw [← e1]
        exact shown_any _ _ _ _ _ _ _ _ _ W' (by simp; omega) hd (by rw [e1]; exact List.all_eq_true.2 fun x hx => List.all_eq_true.1 hvd x (List.mem_of_mem_drop hx)) h10
      have b1 : (0 : Int) ≤ (v.size : Int) - (k : Int) := by omega
      have b2 : (v.size : Int) - (k : Int) ≤ (v.size : Int) := by omega
      have b3 : ((v.size : Int) - (k : Int)).toNat = v.size - k := by omega
      have b5 : k ≤ v.size := by omega
      have b4 : IntKind.i64.wrap ((v.size : Int) - (k : Int)) = (v.size : Int) - (k : Int) := IntWalk.i64_in _ (by omega)
      have Hsh := Lib.hid hsh
      clear hsh e1
      go_wp2_with fail
      go_still_tail 7, (by kernel_rfl)
      change wpList _ _ _ _ _ wr.drew
      go_wp2_with fail
      refine (Hsh.out _ trivial).mono ?_
      rintro e w1 ⟨rfl, hb1⟩
      have hb1' : Below W.heap.size W w1 := hbr.trans ((show Below wr.heap.size wr w1 from ⟨hb1.os, hb1.tape, hb1.output, hb1.size, hb1.block⟩).mono hbr.size)
      have hL1 := hL.below hb1' (by omega)
      have q4 := hL1.c4
      have q5 := hL1.c5
      have q6 := hL1.c6
      have hg4 := (enc_length gr).2
      have hl := shownL_length (ptsL dg.data.toList).1 (ptsL_mem _) (v.data.toList.drop (v.size - k))
      have hl2 : (v.data.toList.drop (v.size - k)).length = k := by simp; omega
      have hstep := fun (hnx : nx = if ne = 0 then fi else ne) => wrRel_step (B := W.heap.size) (w0 := W) (w1 := w1) (ptsL_mem dg.data.toList) hv hvd htt hnx hne hfi g1 g2 g3 hk0 HG.out hb1'
      have Hstep := Lib.hid hstep
      clear hstep hvd
      by_cases he : ne = 0
      · have he' : ((ne : Int) == 0) = true := by simpa using he
        have hn1 : nx = fi := by rw [Hnx.out, if_pos he]
        have Hn1 := Lib.hid hn1
        clear he hn1
        go_wp2
        go_roundw
        case rel => rw [enc_app, show ((fi : Nat) : Int) = (nx : Int) from by rw [Hn1.out]]; exact Hstep.out Hnx.out
        case measure => simp [szOf]; omega
      · have he' : ((ne : Int) == 0) = false := by simpa using he
        have hn1 : nx = ne := by rw [Hnx.out, if_neg he]
        have Hn1 := Lib.hid hn1
        clear he hn1
        go_wp2
        go_roundw
        case rel => rw [enc_app, show ((ne : Nat) : Int) = (nx : Int) from by rw [Hn1.out]]; exact Hstep.out Hnx.out
        case measure => simp [szOf]; omega
    · have hend : grpL (ptsL dg.data.toList).1 (enc gr) nx v.data.toList (if gr = 0 then 0 else k) = shownL (ptsL dg.data.toList).1 v.data.toList := by
        refine grpL_end ?_
        rw [size_toList]
        by_cases hg : gr = 0
        · rw [if_pos hg]; omega
        · rw [if_neg hg]; omega
      have hgo' : ¬ (0 < k) ∨ (0 < k ∧ (gr != 0) = false) ∨ (0 < k ∧ (gr != 0) = true ∧ ¬ (k < v.size)) := by
        by_cases h1 : 0 < k
        · by_cases h2 : gr = 0
          · exact .inr (.inl ⟨h1, by simp [h2]⟩)
          · exact .inr (.inr ⟨h1, by simpa using h2, fun h => hgo ⟨h1, h2, h⟩⟩)
        · exact .inl h1
      have Hend := Lib.hid hend
      have hx0' := (hbr.cell (p := ⟨w.heap.size, 0, none⟩) (by show w.heap.size < W.heap.size; omega)).trans hx0
      have hx2' := (hbr.cell (p := ⟨w.heap.size, 2, none⟩) (by show w.heap.size < W.heap.size; omega)).trans hx2
      have hsh := shown_any v c o mi po gr fi ne dg wr (by omega) hd hvd h10
      have Hsh := Lib.hid hsh
      have hl := shownL_length (ptsL dg.data.toList).1 (ptsL_mem _) v.data.toList
      rw [size_toList] at hl
      have hlf := shownL_length (ptsL dg.data.toList).1 (ptsL_mem _) f.data.toList
      rw [size_toList] at hlf
      have hgm := (enc_length mi).2
      have hgp := (enc_length po).2
      clear hgo hend hsh
      have hW : writtenL below s.data.toList f.data.toList (ptsL dg.data.toList).1 mi po gr fi ne =
          (if below then enc mi else []) ++ (shownL (ptsL dg.data.toList).1 v.data.toList ++ tt) ++ (if f.data.toList = [] then [] else enc po ++ shownL (ptsL dg.data.toList).1 f.data.toList) := by
        unfold writtenL
        rw [← Hnx.out, HG.out, Hend.out]
      have HW := Lib.hid hW
      have hshf := fun W' => shown_any f c o mi po gr fi ne dg W' (by omega) hd hdig2 h10
      have Hshf := Lib.hid hshf
      clear hW hshf
      rcases hgo' with h1 | ⟨h1, h2⟩ | ⟨h1, h2, h3⟩
      all_goals
        go_wp2_with fail
        refine (Hsh.out).mono ?_
        rintro e w2 ⟨rfl, hb2⟩
        have hL2 := hLr.below hb2 (by have := hbr.size; omega)
        have q2 := hL2.c2
        have q3 := hL2.c3
        have q0 := hL2.c0
        have q1 := hL2.c1
        have q4 := hL2.c4
        have q5 := hL2.c5
        have q6 := hL2.c6
        have q7 := hL2.c7
        have hx02 := (hb2.cell (p := ⟨w.heap.size, 0, none⟩) (by show w.heap.size < wr.heap.size; have := hbr.size; omega)).trans hx0'
        have hx22 := (hb2.cell (p := ⟨w.heap.size, 2, none⟩) (by show w.heap.size < wr.heap.size; have := hbr.size; omega)).trans hx2'
        clear hL2 hLr k0 k1 k2 k3 k4 k5 k6 k7 hx0' hx2'
        have hbw : Below w.heap.size w w2 := hb.trans ((hbr.mono (by omega)).trans (hb2.mono (by have := hbr.size; omega)))
        go_wp2_with fail
        · have hb1 : below = true := by assumption
          have hf1 : (!f.toList.isEmpty) = true := by assumption
          refine (Hshf.out _).mono ?_
          rintro e w3 ⟨rfl, hb3⟩
          have r3 := (hb3.cell (p := ⟨w.heap.size + 1, 3, none⟩) (by show w.heap.size + 1 < w2.heap.size; have := hbr.size; have := hb2.size; omega)).trans q3
          go_wp2
          go_ret
          refine ⟨ret_val ?_, hbw.trans (hb3.mono hbw.size)⟩
          rw [HW.out, if_pos hb1, if_neg (nonempty_of hf1)]
          refine congrArg Value.string ?_
          apply ByteArray.ext
          simp [enc, ByteArray.data_append]
        · have hb1 : below = true := by assumption
          have hf1 : (!f.toList.isEmpty) = false := by assumption
          go_ret
          refine ⟨ret_val ?_, hbw⟩
          rw [HW.out, if_pos hb1, if_pos (empty_of hf1)]
          refine congrArg Value.string ?_
          apply ByteArray.ext
          simp [enc, ByteArray.data_append]
        · have hb1 : below = false := by assumption
          have hf1 : (!f.toList.isEmpty) = true := by assumption
          refine (Hshf.out _).mono ?_
          rintro e w3 ⟨rfl, hb3⟩
          have r3 := (hb3.cell (p := ⟨w.heap.size + 1, 3, none⟩) (by show w.heap.size + 1 < w2.heap.size; have := hbr.size; have := hb2.size; omega)).trans q3
          go_wp2
          go_ret
          refine ⟨ret_val ?_, hbw.trans (hb3.mono hbw.size)⟩
          rw [HW.out, if_neg (by rw [hb1]; simp), if_neg (nonempty_of hf1)]
          refine congrArg Value.string ?_
          apply ByteArray.ext
          simp [enc, ByteArray.data_append]
        · have hb1 : below = false := by assumption
          have hf1 : (!f.toList.isEmpty) = false := by assumption
          go_ret
          refine ⟨ret_val ?_, hbw⟩
          rw [HW.out, if_neg (by rw [hb1]; simp), if_pos (empty_of hf1)]
          refine congrArg Value.string ?_
          apply ByteArray.ext
          simp [ByteArray.data_append]
end Go.Proofs.YtpepgmccbkkaaaaGreatDoor

/- phrasesref.categories. -/
namespace Go.Proofs.YtpepgmccbkkaaaaGreatDoor
open Go Go.RowKit
set_option maxRecDepth 10000

def catsL : List (List UInt8) := [[122, 101, 114, 111], [111, 110, 101], [116, 119, 111], [102, 101, 119], [109, 97, 110, 121], [111, 116, 104, 101, 114]]

def CatsPost (w : World) (e : Ending) (w' : World) : Prop :=
  ∃ v, e = .returned v ∧ w'.ownsRow w.heap.size 9 1 v 6 (catsL.map strv) ∧ Below w.heap.size w w'

theorem categories_any (w : World) : Calls Tryz.prog 30 #[] w (CatsPost w) := by
  go_enter Tryz.func30, Tryz.ntmps30
  go_wp2
  go_ret
  exact ⟨_, rfl, World.ownsRow_lit w _ 6 (Nat.le_refl _) (by decide) rfl, (Below.refl _ _).alloc (Nat.le_refl _) _⟩
end Go.Proofs.YtpepgmccbkkaaaaGreatDoor

/- phrasesref.Known, of rules whose answer is known; rules that are none at all. -/
namespace Go.Proofs.YtpepgmccbkkaaaaGreatDoor
open Go Go.RowKit
set_option maxRecDepth 10000

/-- what Ruled answers of a slice of rules, in every later world -/
def RuledAt (w : World) (c : Value) (r : Bool) : Prop :=
  ∀ w', Below w.heap.size w w' → Calls Tryz.prog 19 #[c] w' fun e w'' => e = .returned (.bool r) ∧ Below w'.heap.size w' w''

theorem RuledAt.later {w w' : World} {c : Value} {r : Bool} (h : RuledAt w c r) (hb : Below w.heap.size w w') : RuledAt w' c r :=
  fun w'' hb' => h w'' (hb.trans (hb'.mono hb.size))

theorem ruled_nil (w : World) : RuledAt w (.slice none 0 0) true := by
  intro w' _
  go_enter Tryz.func19, Tryz.ntmps19
  go_wp2_with fail
  refine (categories_any _).mono ?_
  rintro e w1 ⟨v, rfl, hown, hb⟩
  clear hown
  go_wp2
  refine wp_loop_rounds 1 ?_
  rw [rounds_succ]
  go_wp2
  go_ret
  exact ⟨rfl, hb⟩

def knownL (ra rb : Bool) (mi po gr fi ne : Int) (dg : List UInt8) : Bool :=
  ra && (rb && (isPt mi && (isPt po && (isPt gr && (!(mi == 0) && (!(po == 0) && (decide (((ptsL dg).2 : Int) = (dg.length : Int)) && ((decide (¬ 0 < dg.length) || !(((ptsL dg).1.length : Int) != 10)) && (decide (fi ≤ 9) && decide (ne ≤ 9))))))))))

set_option maxHeartbeats 1000000 in
theorem known_any (c o : Value) (ra rb : Bool) (mi po gr fi ne : Int) (dg : ByteArray) (w : World) (hd : dg.size ≤ 1000000)
    (hc : RuledAt w c ra) (ho : RuledAt w o rb) :
    Calls Tryz.prog 14 #[locv c o mi po gr fi ne dg] w fun e w' => e = .returned (.bool (knownL ra rb mi po gr fi ne dg.data.toList)) ∧ Below w.heap.size w w' := by
  have hA := fun W' (h : Below w.heap.size w W') => hc W' h
  have HA := Lib.hid hA
  have HB := Lib.hid ho
  clear hA hc ho
  go_enter Tryz.func14, Tryz.ntmps14
  go_wp2_with fail
  have F : ∃ W, W = w.alloc (.cells #[c, o, .int .i32 mi, .int .i32 po, .int .i32 gr, .int .u8 fi, .int .u8 ne, .string dg] 25) ∧
      Below w.heap.size w W ∧ W.heap.size = w.heap.size + 1 ∧ LocAt W w.heap.size c o mi po gr fi ne dg :=
    ⟨_, rfl, (Below.refl _ _).alloc (Nat.le_refl _) _, by simp, ⟨by go_simp, by go_simp, by go_simp, by go_simp, by go_simp, by go_simp, by go_simp, by go_simp⟩⟩
  obtain ⟨W, hW, hb, hsz, hL⟩ := F
  rw [← hW]
  clear hW
  refine (HA.out _ hb).mono ?_
  rintro e w1 ⟨rfl, hb1⟩
  have hL1 := hL.below hb1 (by omega)
  have a0 := hL1.c0
  have a1 := hL1.c1
  go_wp2_with fail
  refine (HB.out _ (hb.trans (hb1.mono hb.size))).mono ?_
  rintro e w2 ⟨rfl, hb2⟩
  have hL2 := hL1.below hb2 (by have := hb1.size; omega)
  have b2 := hL2.c2
  have b3 := hL2.c3
  have b4 := hL2.c4
  have b5 := hL2.c5
  have b6 := hL2.c6
  have b7 := hL2.c7
  have hbw : Below w.heap.size w w2 := hb.trans ((hb1.mono hb.size).trans (hb2.mono (by have := hb.size; have := hb1.size; omega)))
  have hlt2 : w.heap.size < w2.heap.size := by have := hb2.size; have := hb1.size; omega
  clear hL1 a0 a1 hb2 hb1 hb
  go_wp2_with fail
  refine (point_any _ _).mono ?_
  rintro e w' ⟨rfl, rfl⟩
  go_wp2_with fail
  refine (point_any _ _).mono ?_
  rintro e w' ⟨rfl, rfl⟩
  go_wp2_with fail
  refine (point_any _ _).mono ?_
  rintro e w' ⟨rfl, rfl⟩
  go_wp2_with fail
  all_goals first | (go_ret; refine ⟨ret_val ?_, hbw⟩; simp [knownL, *]; done) | (go_ret; refine ⟨ret_val ?_, hbw⟩; have h2 : (mi == 0) = true ∨ (po == 0) = true := (by assumption); rcases h2 with h2 | h2 <;> simp [knownL, h2]; done) | skip
  refine (points_any _ _ (by omega)).mono ?_
  rintro e w3 ⟨v, rfl, hown, hb3⟩
  have hL3 := hL2.below hb3 hlt2
  have d5 := hL3.c5
  have d6 := hL3.c6
  have d7 := hL3.c7
  obtain ⟨a, cap, rfl⟩ := own_slice hown
  have hbw3 := hbw.trans (hb3.mono hbw.size)
  have e1 : dg.size = dg.data.toList.length := by simp
  have E1 := Lib.hid e1
  clear hL3 hL2 hL hown hb3 e1 b2 b3 b4 b5 b6 b7
  go_wp2_with fail
  all_goals
    go_ret
    refine ⟨ret_val ?_, hbw3⟩
    first | (simp [knownL, *]; done) | (simp [knownL, *]; intros; omega) | (simp [knownL]; intros; omega)
end Go.Proofs.YtpepgmccbkkaaaaGreatDoor
