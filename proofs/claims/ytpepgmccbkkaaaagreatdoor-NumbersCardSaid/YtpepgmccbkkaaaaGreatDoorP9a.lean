/- numfmt.Read: what it gives back, and lemmas on its worlds. -/
import Derived.Test.YtpepgmccbkkaaaaGreatDoorP8
import Derived.Test.YtpepgmccbkkaaaaGreatDoorR6
import Derived.Test.YtpepgmccbkkaaaaGreatDoorRegion
import Derived.Test.YtpepgmccbkkaaaaGreatDoorShelfV
import Derived.Laws.IdiomCopy
namespace Go.Proofs.YtpepgmccbkkaaaaGreatDoor
open Go Go.RowKit
set_option maxRecDepth 10000

/-- 0 to 9 -/
def tenL : List UInt8 := [48, 49, 50, 51, 52, 53, 54, 55, 56, 57]
/-- the digits of a locale -/
def digL (dg : List UInt8) : List UInt8 := if dg = [] then tenL else dg

/-- what numfmt.Read gives back -/
def ReadPost (ra rb : Bool) (mi po gr : Int) (fi ne : Nat) (dg : List UInt8) (Qc Qo : World → Value → Prop) (w : World) (e : Ending) (w' : World) : Prop :=
  Below w.heap.size w w' ∧
  if knownL ra rb mi po gr fi ne dg then ∃ (g : Nat) (cv ov : Value), e = .returned (.pointer (some ⟨g, 0, none⟩)) ∧ w.heap.size ≤ g ∧ g < w'.heap.size ∧
      LocX w' g mi po gr fi ((if ne = 0 then fi else ne : Nat) : Int) (runesL (digL dg)) ∧ w'.cell? ⟨g, 0, none⟩ = some cv ∧ w'.cell? ⟨g, 1, none⟩ = some ov ∧
      (∀ W, Below w'.heap.size w' W → Qc W cv) ∧ (∀ W, Below w'.heap.size w' W → Qo W ov)
  else e = .returned (.pointer none)

/-- all that was there but blocks b and b + 1 is as it was -/
def Sam (b : Nat) (A B : World) : Prop := A.heap.size ≤ B.heap.size ∧ ∀ j, j ≠ b → j ≠ b + 1 → j < A.heap.size → B.heap[j]? = A.heap[j]?

theorem Sam.refl (b : Nat) (A : World) : Sam b A A := ⟨Nat.le_refl _, fun _ _ _ _ => rfl⟩
theorem Sam.trans {b : Nat} {A B C : World} (h : Sam b A B) (k : Sam b B C) : Sam b A C :=
  ⟨Nat.le_trans h.1 k.1, fun j h1 h2 h3 => (k.2 j h1 h2 (Nat.lt_of_lt_of_le h3 h.1)).trans (h.2 j h1 h2 h3)⟩
theorem Sam.below {b : Nat} {A B : World} (h : Below A.heap.size A B) : Sam b A B := ⟨h.size, fun j _ _ h3 => h.block j h3⟩
theorem Sam.set {b : Nat} {A B : World} (h : Sam b A B) (p : Addr) (v : Value) (hp : p.block = b ∨ p.block = b + 1) : Sam b A (B.setCell p v) :=
  h.trans ⟨by simp, fun j h1 h2 _ => Below.heap_setCell _ _ _ _ (by omega)⟩
theorem Sam.agree {b hi : Nat} {A B C : World} (h : Sam b A B) (hh : b + 2 ≤ hi) (hb : b + 2 ≤ A.heap.size) (k : Below B.heap.size B C) : Agree b hi A C :=
  ⟨Nat.le_trans h.1 k.size, fun j hj => by
    have hlt : j < A.heap.size := by omega
    rw [k.block j (Nat.lt_of_lt_of_le hlt h.1)]
    exact h.2 j (by omega) (by omega) hlt⟩

theorem push_last (h : Array Obj) (a b : Obj) : ((h.push a).push b)[h.size + 1]? = some b := by
  have e : h.size + 1 = (h.push a).size := by simp
  rw [e]
  exact Array.getElem?_push_size

theorem valid_isPt (r : Int) : Lib.validRune r = isPt r := by
  unfold Lib.validRune isPt
  rw [decide_eq_decide]
  omega

theorem kn_false {ra rb : Bool} {mi po gr : Int} {fi ne : Nat} {dg : List UInt8} (h : ¬ (ra = true ∧ rb = true ∧ max (fi : Int) (ne : Int) ≤ 9 ∧ ¬ mi = 0 ∧ ¬ po = 0)) : knownL ra rb mi po gr fi ne dg = false := by
  rw [← Bool.not_eq_true]
  intro hk
  simp only [knownL, Bool.and_eq_true, Bool.not_eq_true', beq_eq_false_iff_ne, decide_eq_true_eq] at hk
  exact h ⟨hk.1, hk.2.1, by omega, hk.2.2.2.2.2.1, hk.2.2.2.2.2.2.1⟩

theorem kn_false2 {ra rb : Bool} {mi po gr : Int} {fi ne : Nat} {dg : List UInt8} (h : isPt mi = false ∨ isPt po = false ∨ isPt gr = false) : knownL ra rb mi po gr fi ne dg = false := by
  rw [← Bool.not_eq_true]
  intro hk
  simp only [knownL, Bool.and_eq_true] at hk
  rcases h with h | h | h
  · rw [hk.2.2.1] at h; cases h
  · rw [hk.2.2.2.1] at h; cases h
  · rw [hk.2.2.2.2.1] at h; cases h

theorem tabs_later {w W : World} (h : Lib.Utf8Tabs 2 3 w) (hb : Below w.heap.size w W) : Lib.Utf8Tabs 2 3 W := by
  have lt : ∀ (a : Addr) (v : Value), w.cell? a = some v → a.block < w.heap.size := fun a v h => World.block_lt_of_cell? w a h
  refine ⟨fun c hc => ?_, fun i hi => ⟨?_, ?_⟩⟩
  · rw [hb.cell (lt _ _ (h.1 c hc))]; exact h.1 c hc
  · rw [hb.cell (lt _ _ (h.2 i hi).1)]; exact (h.2 i hi).1
  · rw [hb.cell (lt _ _ (h.2 i hi).2)]; exact (h.2 i hi).2

theorem kn_false3 {ra rb : Bool} {mi po gr : Int} {fi ne : Nat} {dg : List UInt8} (h : Lib.validD dg = false) : knownL ra rb mi po gr fi ne dg = false := by
  rw [← Bool.not_eq_true]
  intro hk
  simp only [knownL, Bool.and_eq_true, decide_eq_true_eq] at hk
  have h1 : (ptsL dg).2 = dg.length := by have := hk.2.2.2.2.2.2.2.1; omega
  rw [(valid_pts dg).2 h1] at h
  cases h

theorem cell_old {w : World} {o : Obj} {a : Addr} (h : a.block < w.heap.size) : (w.alloc o).cell? a = w.cell? a := World.cell?_alloc_lt w o a h

theorem ten_count : (ptsL (⟨#[48, 49, 50, 51, 52, 53, 54, 55, 56, 57]⟩ : ByteArray).data.toList).1.length = 10 := by
  have h := (count_pts ⟨#[48, 49, 50, 51, 52, 53, 54, 55, 56, 57]⟩ 10 0 (by decide) (by decide) (by rw [List.drop_zero, (valid_pts _).1 (by decide)]; decide)).1
  rw [List.drop_zero] at h
  rw [← h]
  decide

theorem kn_false4 {ra rb : Bool} {mi po gr : Int} {fi ne : Nat} {dg : List UInt8} (hd : ¬ dg = []) (h : ¬ (ptsL dg).1.length = 10) : knownL ra rb mi po gr fi ne dg = false := by
  rw [← Bool.not_eq_true]
  intro hk
  simp only [knownL, Bool.and_eq_true, Bool.or_eq_true, decide_eq_true_eq] at hk
  rcases hk.2.2.2.2.2.2.2.2.1 with h1 | h1
  · exact h1 (List.length_pos_iff.2 hd)
  · refine h ?_
    simp at h1
    omega

theorem below_iter (B : Nat) (w : World) (s : ByteArray) (pos : Nat) : B ≤ w.heap.size → Below B w (w.iter s pos) := fun hB => (Below.refl _ _).alloc hB _

theorem heap_set {w : World} {b j : Nat} {cs : Array Value} {T : TypeId} {fr : Nat × Nat} (h : w.heap[b]? = some (.cells cs T fr)) (v : Value) : (w.setCell ⟨b, j, none⟩ v).heap[b]? = some (.cells (cs.setIfInBounds j v) T fr) := by
  simp [World.setCell, Array.getElem?_modify, h]

/-- the locale that came in, in block b; the one that is made, behind it -/
structure RW (b : Nat) (c o cv ov : Value) (mi po gr fi ne nx : Int) (dg : ByteArray) (W : World) : Prop where
  hA : W.heap[b]? = some (.cells #[c, o, .int .i32 mi, .int .i32 po, .int .i32 gr, .int .u8 fi, .int .u8 ne, .string dg] 25 (0, 0))
  hB : W.heap[b + 1]? = some (.cells #[cv, ov, .int .i32 mi, .int .i32 po, .int .i32 gr, .int .i64 fi, .int .i64 nx, .int .i32 0, .int .i32 0, .int .i32 0, .int .i32 0, .int .i32 0, .int .i32 0, .int .i32 0, .int .i32 0, .int .i32 0, .int .i32 0] 82 (0, 0))

theorem RW.below {b B : Nat} {c o cv ov : Value} {mi po gr fi ne nx : Int} {dg : ByteArray} {W W' : World} (h : RW b c o cv ov mi po gr fi ne nx dg W) (hb : Below B W W') (hlt : b + 1 < B) : RW b c o cv ov mi po gr fi ne nx dg W' :=
  ⟨by rw [hb.block b (by omega)]; exact h.hA, by rw [hb.block (b + 1) hlt]; exact h.hB⟩

theorem RW.a {b : Nat} {c o cv ov : Value} {mi po gr fi ne nx : Int} {dg : ByteArray} {W : World} (h : RW b c o cv ov mi po gr fi ne nx dg W) :
    W.cell? ⟨b, 0, none⟩ = some c ∧ W.cell? ⟨b, 1, none⟩ = some o ∧ W.cell? ⟨b, 2, none⟩ = some (.int .i32 mi) ∧ W.cell? ⟨b, 3, none⟩ = some (.int .i32 po) ∧ W.cell? ⟨b, 4, none⟩ = some (.int .i32 gr) ∧
    W.cell? ⟨b, 5, none⟩ = some (.int .u8 fi) ∧ W.cell? ⟨b, 6, none⟩ = some (.int .u8 ne) ∧ W.cell? ⟨b, 7, none⟩ = some (.string dg) ∧ W.frozen? ⟨b, 7, none⟩ = false :=
  ⟨Lib.cell_of_heap h.hA 0, Lib.cell_of_heap h.hA 1, Lib.cell_of_heap h.hA 2, Lib.cell_of_heap h.hA 3, Lib.cell_of_heap h.hA 4, Lib.cell_of_heap h.hA 5, Lib.cell_of_heap h.hA 6, Lib.cell_of_heap h.hA 7, Lib.frozen_of_heap h.hA 7⟩

theorem RW.b {b : Nat} {c o cv ov : Value} {mi po gr fi ne nx : Int} {dg : ByteArray} {W : World} (h : RW b c o cv ov mi po gr fi ne nx dg W) :
    W.cell? ⟨b + 1, 0, none⟩ = some cv ∧ W.cell? ⟨b + 1, 1, none⟩ = some ov ∧ W.cell? ⟨b + 1, 5, none⟩ = some (.int .i64 fi) ∧ W.cell? ⟨b + 1, 6, none⟩ = some (.int .i64 nx) ∧
    W.frozen? ⟨b + 1, 0, none⟩ = false ∧ W.frozen? ⟨b + 1, 1, none⟩ = false ∧ W.frozen? ⟨b + 1, 6, none⟩ = false :=
  ⟨Lib.cell_of_heap h.hB 0, Lib.cell_of_heap h.hB 1, Lib.cell_of_heap h.hB 5, Lib.cell_of_heap h.hB 6, Lib.frozen_of_heap h.hB 0, Lib.frozen_of_heap h.hB 1, Lib.frozen_of_heap h.hB 6⟩

theorem RW.set0 {b : Nat} {c o cv ov : Value} {mi po gr fi ne nx : Int} {dg : ByteArray} {W : World} (h : RW b c o cv ov mi po gr fi ne nx dg W) (v : Value) : RW b c o v ov mi po gr fi ne nx dg (W.setCell ⟨b + 1, 0, none⟩ v) :=
  ⟨by rw [Below.heap_setCell _ _ _ _ (by simp)]; exact h.hA, by rw [heap_set h.hB]; rfl⟩
theorem RW.set1 {b : Nat} {c o cv ov : Value} {mi po gr fi ne nx : Int} {dg : ByteArray} {W : World} (h : RW b c o cv ov mi po gr fi ne nx dg W) (v : Value) : RW b c o cv v mi po gr fi ne nx dg (W.setCell ⟨b + 1, 1, none⟩ v) :=
  ⟨by rw [Below.heap_setCell _ _ _ _ (by simp)]; exact h.hA, by rw [heap_set h.hB]; rfl⟩
theorem RW.set6 {b : Nat} {c o cv ov : Value} {mi po gr fi ne nx : Int} {dg : ByteArray} {W : World} (h : RW b c o cv ov mi po gr fi ne nx dg W) (v : Int) : RW b c o cv ov mi po gr fi ne v dg (W.setCell ⟨b + 1, 6, none⟩ (.int .i64 v)) :=
  ⟨by rw [Below.heap_setCell _ _ _ _ (by simp)]; exact h.hA, by rw [heap_set h.hB]; rfl⟩
theorem RW.setd {b : Nat} {c o cv ov : Value} {mi po gr fi ne nx : Int} {dg : ByteArray} {W : World} (h : RW b c o cv ov mi po gr fi ne nx dg W) (d : ByteArray) : RW b c o cv ov mi po gr fi ne nx d (W.setCell ⟨b, 7, none⟩ (.string d)) :=
  ⟨by rw [heap_set h.hA]; rfl, by rw [Below.heap_setCell _ _ _ _ (by simp)]; exact h.hB⟩

theorem src_cells (V : World) (cs : List Value) (r : Array Value) (T : TypeId) (j : Nat) (v : Value) (h : cs[j]? = some v) :
    (V.alloc (.cells (cs.toArray ++ r) T)).drew.drew.cell? ((⟨V.heap.size, 0, none⟩ : Addr).add j) = some v := by
  have h1 : (V.alloc (.cells (cs.toArray ++ r) T)).drew.drew.heap[V.heap.size]? = some (.cells (cs.toArray ++ r) T) := by
    show (V.heap.push _)[V.heap.size]? = _
    simp
  have hlt : j < cs.length := by
    rcases Nat.lt_or_ge j cs.length with hh | hh
    · exact hh
    · rw [List.getElem?_eq_none hh] at h; cases h
  rw [addr_add0, Lib.cell_of_heap h1 j, Array.getElem?_append_left (by simpa using hlt)]
  simpa using h

theorem dst_cells {V : World} {g : Nat} {cs : Array Value} {T : TypeId} (h : V.heap[g]? = some (.cells cs T (0, 0))) (hs : cs.size = 17) (n : Nat) (hn : n = 10) :
    (∀ j, j < n → (V.cell? ⟨g, 7 + j, none⟩).isSome = true) ∧ ∀ j, j < n → V.frozen? ⟨g, 7 + j, none⟩ = false := by
  subst hn
  refine ⟨fun j hj => ?_, fun j hj => Lib.frozen_of_heap h _⟩
  rw [Lib.cell_of_heap h (7 + j)]
  have : 7 + j < cs.size := by omega
  simp [this]

theorem Sam.setCells {b : Nat} {A : World} : ∀ (vs : List Value) (B : World) (o : Nat), Sam b A B → Sam b A (B.setCells (b + 1) o vs)
  | [], _, _, h => h
  | v :: vs, B, o, h => by
    unfold World.setCells
    exact Sam.setCells vs _ _ (h.set _ _ (.inr rfl))

theorem below_setCells {b : Nat} {A : World} : ∀ (vs : List Value) (B : World) (o : Nat), Below b A B → Below b A (B.setCells (b + 1) o vs)
  | [], _, _, h => h
  | v :: vs, B, o, h => by
    unfold World.setCells
    exact below_setCells vs _ _ (h.setCell (Nat.le_succ b) _)

theorem kn_true {mi po gr : Int} {fi ne : Nat} {dg D : List UInt8} (hD : D = digL dg) (h3 : max (fi : Int) (ne : Int) ≤ 9) (h4 : ¬ mi = 0) (h5 : ¬ po = 0) (p1 : isPt mi = true) (p2 : isPt po = true) (p3 : isPt gr = true)
    (hp : (ptsL D).2 = D.length) (hc : (ptsL D).1.length = 10) : knownL true true mi po gr fi ne dg = true := by
  unfold digL at hD
  by_cases h : dg = []
  · subst h
    have e : (ptsL []).2 = 0 := by rw [ptsL_nil]
    simp [knownL, p1, p2, p3, h4, h5, e]
    omega
  · rw [if_neg h] at hD
    subst hD
    simp [knownL, p1, p2, p3, h4, h5, hp, hc]
    omega

theorem read_fin {w W1 W3 W7 : World} {D : ByteArray} {pos : Nat} {ob : Obj} {c oo cv ov : Value} {mi po gr : Int} {fi ne nx hi1 hi3 : Nat} {rs : List Int} {dg : List UInt8} {Qc Qo : World → Value → Prop}
    (h : RW w.heap.size c oo cv ov mi po gr fi ne (nx : Int) D W7) (hb : Below w.heap.size w W7) (hz : w.heap.size + 2 ≤ W7.heap.size) (hl : rs.length = 10) (hnx : nx = if ne = 0 then fi else ne)
    (hrs : rs = runesL D.data.toList) (hD : D.data.toList = digL dg) (hk : knownL true true mi po gr fi ne dg = true)
    (s1 : Sam w.heap.size W1 W7) (s3 : Sam w.heap.size W3 W7) (h1 : w.heap.size + 2 ≤ hi1) (h3 : w.heap.size + 2 ≤ hi3) (z1 : w.heap.size + 2 ≤ W1.heap.size) (z3 : w.heap.size + 2 ≤ W3.heap.size)
    (q1 : ∀ W, Agree w.heap.size hi1 W1 W → Qc W cv) (q3 : ∀ W, Agree w.heap.size hi3 W3 W → Qo W ov) :
    ReadPost true true mi po gr fi ne dg Qc Qo w (.returned (.pointer (some ⟨w.heap.size + 1, 0, none⟩))) (((W7.iter D pos).alloc ob).drew.drew.setCells (w.heap.size + 1) 7 (rs.map (Value.int .i32))) := by
  have hV : ((W7.iter D pos).alloc ob).drew.drew.heap[w.heap.size + 1]? = W7.heap[w.heap.size + 1]? := by
    show ((W7.alloc _).alloc _).heap[w.heap.size + 1]? = _
    rw [Below.heap_alloc _ _ _ (by simp; omega), Below.heap_alloc _ _ _ (by omega)]
  have hVB := hV.trans h.hB
  have sV : ∀ {A : World}, Sam w.heap.size A W7 → Sam w.heap.size A (((W7.iter D pos).alloc ob).drew.drew.setCells (w.heap.size + 1) 7 (rs.map (Value.int .i32))) := by
    intro A hA
    refine Sam.setCells _ _ _ (hA.trans ⟨?_, fun j _ _ hj => ?_⟩)
    · show W7.heap.size ≤ ((W7.alloc _).alloc _).heap.size
      simp; omega
    · show ((W7.alloc _).alloc _).heap[j]? = _
      rw [Below.heap_alloc _ _ _ (by simp; omega), Below.heap_alloc _ _ _ hj]
  have hbV : Below w.heap.size w (((W7.iter D pos).alloc ob).drew.drew.setCells (w.heap.size + 1) 7 (rs.map (Value.int .i32))) := by
    refine below_setCells _ _ _ ?_
    have h1 : Below w.heap.size w ((W7.iter D pos).alloc ob) := (hb.trans (below_iter _ _ _ _ (by omega))).alloc (by show _ ≤ (W7.alloc _).heap.size; simp; omega) _
    exact ⟨h1.os, h1.tape, h1.output, h1.size, h1.block⟩
  have hz9 := (sV (Sam.refl _ W7)).1
  generalize hVV : ((W7.iter D pos).alloc ob).drew.drew = V at *
  have out : ∀ j, j < 7 → (V.setCells (w.heap.size + 1) 7 (rs.map (Value.int .i32))).cell? ⟨w.heap.size + 1, j, none⟩ = V.cell? ⟨w.heap.size + 1, j, none⟩ := fun j hj => World.cell?_setCells_out _ _ _ _ _ (fun _ _ => .inl hj)
  refine ⟨hbV, ?_⟩
  rw [if_pos hk]
  refine ⟨w.heap.size + 1, cv, ov, rfl, Nat.le_succ _, by omega, ⟨?_, ?_, ?_, ?_, ?_, ?_, ?_⟩, ?_, ?_, fun W hW => q1 W ((sV s1).agree h1 z1 hW), fun W hW => q3 W ((sV s3).agree h3 z3 hW)⟩
  · rw [out 2 (by decide)]; exact Lib.cell_of_heap hVB 2
  · rw [out 3 (by decide)]; exact Lib.cell_of_heap hVB 3
  · rw [out 4 (by decide)]; exact Lib.cell_of_heap hVB 4
  · rw [out 5 (by decide)]; exact Lib.cell_of_heap hVB 5
  · rw [out 6 (by decide), ← hnx]; exact Lib.cell_of_heap hVB 6
  · rw [← hD, ← hrs]; exact hl
  · rw [← hD, ← hrs]
    intro j hj
    have hin := World.cell?_setCells_in (w.heap.size + 1) (rs.map (Value.int .i32)) 7 V (by rw [List.length_map]; exact (dst_cells hVB rfl _ hl).1) j (by simpa using hj)
    rw [hin, List.getElem_map]
  · rw [out 0 (by decide)]; exact Lib.cell_of_heap hVB 0
  · rw [out 1 (by decide)]; exact Lib.cell_of_heap hVB 1

theorem copy_run (V : World) (rs : List Int) (r : Array Value) (cap b : Nat) {cs : Array Value} {T : TypeId} (hl : rs.length = 10)
    (hVB : (V.alloc (.cells ((rs.map (Value.int .i32)).toArray ++ r) 21)).drew.drew.heap[b]? = some (.cells cs T (0, 0))) (hs : cs.size = 17) :
    (Builtin.copy_ #[86, 86] 3 #[.slice (some ⟨b, 7, none⟩) 10 10, .slice (some ⟨V.heap.size, 0, none⟩) 10 cap]).run Tryz.prog (V.alloc (.cells ((rs.map (Value.int .i32)).toArray ++ r) 21)).drew.drew =
      .ok (goInt (rs.map (Value.int .i32)).length) ((V.alloc (.cells ((rs.map (Value.int .i32)).toArray ++ r) 21)).drew.drew.setCells b 7 (rs.map (Value.int .i32))) := by
  have hd := dst_cells hVB hs (rs.map (Value.int .i32)).length (by simp [hl])
  have hsrc := src_cells V (rs.map (Value.int .i32)) r 21
  generalize (V.alloc (.cells ((rs.map (Value.int .i32)).toArray ++ r) 21)).drew.drew = W at *
  exact run_copy_cells W 86 86 3 21 b 7 10 10 ⟨V.heap.size, 0, none⟩ 10 cap (rs.map (Value.int .i32)) Tryz.underlying86 (by kernel_rfl) (by simp [hl]) hsrc hd.1 hd.2 (by intro v hv; simp at hv; obtain ⟨x, _, rfl⟩ := hv; rfl)
end Go.Proofs.YtpepgmccbkkaaaaGreatDoor
