import Derived.Test.YtpepgmccbkkaaaaGreatDoorJ24
import Derived.Maps.Own
import Derived.Maps.Views
import Derived.IntWalk

/- plural.Read: the sets that rules make. -/
namespace Go.Proofs.YtpepgmccbkkaaaaGreatDoor
open Go Go.RowKit
set_option maxRecDepth 10000

def catsB : List ByteArray := [⟨#[122, 101, 114, 111]⟩, ⟨#[111, 110, 101]⟩, ⟨#[116, 119, 111]⟩, ⟨#[102, 101, 119]⟩, ⟨#[109, 97, 110, 121]⟩, ⟨#[111, 116, 104, 101, 114]⟩]

/-- the categories' names are there -/
def NamesAt (w : World) : Prop := ∀ j, j < 6 → w.cell? ⟨1, j, none⟩ = some (.string (catsB.getD j ByteArray.empty))

theorem NamesAt.below {w w' : World} (h : NamesAt w) (hb : Below w.heap.size w w') : NamesAt w' := fun j hj => (hb.cell (World.block_lt_of_cell? w _ (h j hj))).trans (h j hj)

/-- a rule: its name, and when -/
abbrev Rul := Wd × List UInt8

/-- rules in memory -/
def RulesAt (w : World) (v : Value) (rs : List Rul) : Prop :=
  ∃ a cap, v = .slice a rs.length cap ∧ ∀ j (h : j < rs.length), ∃ g o, a = some ⟨g, o, none⟩ ∧ w.cell? ⟨g, o + j * 2, none⟩ = some (strv rs[j].1) ∧ w.cell? ⟨g, o + j * 2 + 1, none⟩ = some (strv rs[j].2)

theorem RulesAt.below {w w' : World} {v : Value} {rs : List Rul} (h : RulesAt w v rs) (hb : Below w.heap.size w w') : RulesAt w' v rs := by
  obtain ⟨a, cap, hv, h⟩ := h
  refine ⟨a, cap, hv, fun j hj => ?_⟩
  obtain ⟨g, o, e1, e2, e3⟩ := h j hj
  exact ⟨g, o, e1, (hb.cell (World.block_lt_of_cell? w _ e2)).trans e2, (hb.cell (World.block_lt_of_cell? w _ e3)).trans e3⟩

/-- a category's number; below 0: none -/
def catIx (n : Wd) : Int := Lib.idxOfS catsB ⟨n.toArray⟩

def readGo : List Rul → List Wd → List (Nat × Tst) → Option (List (Nat × Tst))
  | [], _, acc => some acc
  | (n, c) :: t, seen, acc => match condL c with
    | none => none
    | some T => if catIx n < 0 ∨ n ∈ seen then none else readGo t (n :: seen) (acc ++ [((catIx n).toNat, T)])

def readL (rs : List Rul) : Option (List (Nat × Tst)) := readGo rs [[111, 116, 104, 101, 114]] []

theorem elem_set : Elem Tryz.prog 79 120 (.agg #[.int .i64 0, .nilFunc]) 2 16 :=
  ⟨Tryz.underlying79, info_parts (by kernel_rfl), rfl, by decide, by decide⟩

/-- a row of a set, of the call's own; no test hangs on the row -/
def RowS (lo : Nat) (w : World) (sv : Value) (S : List (Nat × Tst)) : Prop :=
  ∃ vs : List Value, w.ownsRow lo 120 2 sv S.length vs ∧
    ∀ j (h : j < S.length), ∃ u l h', vs[j * 2]? = some (.int .i64 S[j].1) ∧ vs[j * 2 + 1]? = some u ∧ lo ≤ l ∧ h' ≤ w.heap.size ∧ (∀ g, sv.ownBlock = some g → g < l ∨ h' ≤ g) ∧ TestR l h' w u S[j].2

theorem RowS.nil (lo : Nat) (w : World) : RowS lo w (.slice none 0 0) [] := ⟨[], World.ownsRow_nil _ _ _ _, fun j h => absurd h (Nat.not_lt_zero j)⟩

theorem RowS.form {lo : Nat} {w : World} {sv : Value} {S : List (Nat × Tst)} (h : RowS lo w sv S) : ∃ a cap, sv = .slice a S.length cap := by
  obtain ⟨vs, ho, _⟩ := h
  exact own_slice ho

theorem RowS.lt {lo : Nat} {w : World} {sv : Value} {S : List (Nat × Tst)} (h : RowS lo w sv S) : ∀ g, sv.ownBlock = some g → lo ≤ g ∧ g < w.heap.size := by
  obtain ⟨vs, ho, _⟩ := h
  exact ho.lt

/-- the row behind what touches neither it nor what the tests hang on: one block b alone was written -/
theorem RowS.but {lo b : Nat} {w w' : World} {sv : Value} {S : List (Nat × Tst)} (h : RowS lo w sv S) (hb : But b w w') (hne : sv.ownBlock ≠ some b)
    (hl : b < lo ∨ w.heap.size ≤ b) : RowS lo w' sv S := by
  obtain ⟨vs, ho, ht⟩ := h
  refine ⟨vs, ho.kept (row := some b) ⟨hb.os, hb.tape, hb.output, hb.size, fun i hi hn => hb.block i hi (fun e => hn (by rw [e]))⟩ (.inr hne), fun j hj => ?_⟩
  obtain ⟨u, l, h', e1, e2, e3, e4, e5, e6⟩ := ht j hj
  refine ⟨u, l, h', e1, e2, e3, Nat.le_trans e4 hb.size, e5, e6.keep ⟨Nat.le_trans e4 hb.size, fun k k1 k2 => hb.block k (by omega) (by omega)⟩ (Nat.le_refl _) (Nat.le_refl _)⟩

theorem RowS.below {lo : Nat} {w w' : World} {sv : Value} {S : List (Nat × Tst)} (h : RowS lo w sv S) (hb : Below w.heap.size w w') : RowS lo w' sv S :=
  h.but (But.of (p := w.heap.size) hb) (fun e => by have := (h.lt _ e).2; omega) (.inr (Nat.le_refl _))

theorem map_below {k : TypeId} {R : Value → Option (DataW Unit × List MemPlace)} {b n : Nat} {D : DataW Unit} {w w' : World} (h : w.ownsMap Tryz.prog k R b n D) (hb : Below w.heap.size w w') : w'.ownsMap Tryz.prog k R b n D :=
  h.kept (row := none) ⟨hb.os, hb.tape, hb.output, hb.size, fun i hi _ => hb.block i hi⟩ (by simp)

theorem eql_test (fn : Fn) (first cap : Array Value) (w : World) : (binOp .eql 118 (.func fn first cap) .nilFunc).run Tryz.prog w = .ok (.bool false) w := by
  have h : ∀ d : Nat, (Op.equalIn (d + 1) 118 (.func fn first cap) .nilFunc).run Tryz.prog w = .ok false w := fun d => by
    simp [Op.equalIn, run_underlying Tryz.underlying118]
  simp only [binOp]
  simp [Op.equal, Op.maxDepth, h 9999]
theorem eql_niltest (w : World) : (binOp .eql 118 .nilFunc .nilFunc).run Tryz.prog w = .ok (.bool true) w := by
  have h : ∀ d : Nat, (Op.equalIn (d + 1) 118 .nilFunc .nilFunc).run Tryz.prog w = .ok true w := fun d => by
    simp [Op.equalIn, run_underlying Tryz.underlying118]
  simp only [binOp]
  simp [Op.equal, Op.maxDepth, h 9999]

theorem RowS.more {lo l0 h0 : Nat} {w w1 w' : World} {sv sv' : Value} {S : List (Nat × Tst)} {q : Nat × Tst} {vs : List Value} {u : Value}
    (ht : ∀ j (h : j < S.length), ∃ u l h', vs[j * 2]? = some (.int .i64 S[j].1) ∧ vs[j * 2 + 1]? = some u ∧ lo ≤ l ∧ h' ≤ w.heap.size ∧ (∀ g, sv.ownBlock = some g → g < l ∨ h' ≤ g) ∧ TestR l h' w u S[j].2) (hvl : vs.length = S.length * 2)
    (hT : TestR l0 h0 w u q.2) (hl0 : lo ≤ l0) (hh0 : h0 ≤ w.heap.size) (hg0 : ∀ g, sv.ownBlock = some g → g < l0 ∨ h0 ≤ g)
    (hb : Below w.heap.size w w1) (hgrow : w1.grownBy w' sv.ownBlock) (hat : sv'.ownBlock = sv.ownBlock ∨ sv'.ownBlock = some w1.heap.size) (ho : w'.ownsRow lo 120 2 sv' (S.length + 1) (vs ++ [.int .i64 q.1, u])) :
    RowS lo w' sv' (S ++ [q]) := by
  have hkeep : ∀ l h', h' ≤ w.heap.size → (∀ g, sv.ownBlock = some g → g < l ∨ h' ≤ g) → KeepR l h' w w' := by
    intro l h' hh hg
    refine ⟨Nat.le_trans hh (Nat.le_trans hb.size hgrow.size), fun k k1 k2 => ?_⟩
    rw [hgrow.block k (by have := hb.size; omega) (fun e => by rcases hg k e.symm with q | q <;> omega)]
    exact hb.block k (by omega)
  have hnew : ∀ l h', h' ≤ w.heap.size → (∀ g, sv.ownBlock = some g → g < l ∨ h' ≤ g) → ∀ g, sv'.ownBlock = some g → g < l ∨ h' ≤ g := by
    intro l h' hh hg g e
    rcases hat with q | q
    · exact hg g (q ▸ e)
    · rw [q] at e
      cases e
      exact .inr (Nat.le_trans hh hb.size)
  refine ⟨vs ++ [.int .i64 q.1, u], by simpa using ho, fun j hj => ?_⟩
  by_cases hjl : j < S.length
  · obtain ⟨x, l, h', e1, e2, e3, e4, e5, e6⟩ := ht j hjl
    refine ⟨x, l, h', ?_, ?_, e3, Nat.le_trans e4 (Nat.le_trans hb.size hgrow.size), hnew l h' e4 e5, ?_⟩
    · rw [List.getElem?_append_left (by omega), List.getElem_append_left hjl]; exact e1
    · rw [List.getElem?_append_left (by omega)]; exact e2
    · rw [List.getElem_append_left hjl]; exact e6.keep (hkeep l h' e4 e5) (Nat.le_refl _) (Nat.le_refl _)
  · have e : j = S.length := by simp at hj; omega
    subst e
    refine ⟨u, l0, h0, ?_, ?_, hl0, Nat.le_trans hh0 (Nat.le_trans hb.size hgrow.size), hnew l0 h0 hh0 hg0, ?_⟩
    · rw [List.getElem?_append_right (by omega), hvl, List.getElem_append_right (by omega)]; simp
    · rw [List.getElem?_append_right (by omega), hvl]; simp
    · rw [List.getElem_append_right (by omega)]
      simpa using hT.keep (hkeep l0 h0 hh0 hg0) (Nat.le_refl _) (Nat.le_refl _)

theorem RowS.set {lo cap : Nat} {w : World} {a : Option Addr} {S : List (Nat × Tst)} (h : RowS lo w (.slice a S.length cap) S) : SetR lo w.heap.size w a S := by
  obtain ⟨vs, ho, ht⟩ := h
  intro j hj
  obtain ⟨u, l, h', e1, e2, e3, e4, e5, e6⟩ := ht j hj
  obtain ⟨g, cap', hv, hg, hg2, hc⟩ := own_some ho (by omega)
  cases hv
  refine ⟨g, 0, u, rfl, ?_, ?_, hg, hg2, e6.keep (keep_refl e4) e3 e4⟩
  · rw [Nat.zero_add, hc (j * 2) (by omega)]; exact e1
  · rw [Nat.zero_add, hc (j * 2 + 1) (by omega)]; exact e2

def ReadQ (r : Option (List (Nat × Tst))) (w : World) (e : Ending) (w' : World) : Prop :=
  (match r with | none => e = .returned (.tuple #[.slice none 0 0, .bool false]) | some S => ∃ a c, e = .returned (.tuple #[.slice a S.length c, .bool true]) ∧ SetR w.heap.size w'.heap.size w' a S) ∧ Below w.heap.size w w'

/-- what the map of seen names reads -/
def SeenD (D : DataW Unit) (seen : List Wd) : Prop := Maps.IsMap D ∧ ∀ n : Wd, ∃ c : Int, D.atKey (.string n) (.lit (.int .i64 0)) = .lit (.int .i64 c) ∧ (0 < c ↔ n ∈ seen) ∧ 0 ≤ c ∧ c ≤ seen.length

/-- the loop's relation -/
def ReadRel (rs : List Rul) (r : Option (List (Nat × Tst))) (mb : Nat) (w : World) (sv : Value) (k : Nat) (wr : World) : Prop :=
  ∃ (S : List (Nat × Tst)) (seen : List Wd) (D : DataW Unit), RowS (mb + 1) wr sv S ∧ wr.ownsMap Tryz.prog 9 (plainElem Tryz.prog 3) mb (k + 1) D ∧ SeenD D seen ∧ seen.length ≤ k + 1 ∧ Below w.heap.size w wr ∧ w.heap.size ≤ mb ∧
    S.length ≤ k ∧ readGo (rs.drop k) seen S = r

theorem seen_start : SeenD ((DataW.map [] : DataW Unit).put (.string [111, 116, 104, 101, 114]) (.lit (.int .i64 1))) [[111, 116, 104, 101, 114]] := by
  refine ⟨⟨_, rfl⟩, fun n => ?_⟩
  by_cases h : n = [111, 116, 104, 101, 114]
  · subst h
    exact ⟨1, by kernel_rfl, by simp, by decide, by simp⟩
  · refine ⟨0, ?_, by simp [h], by decide, by simp⟩
    rw [Maps.atKey_put_other (by simpa using h)]
    rfl

theorem seen_more {D : DataW Unit} {seen : List Wd} {n : Wd} (h : SeenD D seen) {c : Int} (hc : D.atKey (.string n) (.lit (.int .i64 0)) = .lit (.int .i64 c)) : SeenD (D.put (.string n) (.lit (.int .i64 (c + 1)))) (n :: seen) := by
  obtain ⟨⟨es, rfl⟩, h2⟩ := h
  refine ⟨⟨_, rfl⟩, fun m => ?_⟩
  by_cases hm : m = n
  · subst hm
    obtain ⟨c', e1, e2, e3, e4⟩ := h2 m
    rw [hc] at e1
    cases e1
    exact ⟨c + 1, Maps.atKey_put_same ⟨_, rfl⟩ (by trivial) _ _, by simp; omega, by omega, by simp; omega⟩
  · obtain ⟨c', e1, e2, e3, e4⟩ := h2 m
    refine ⟨c', ?_, by simp [hm, e2], e3, by simp; omega⟩
    rw [Maps.atKey_put_other (by simpa using hm)]
    exact e1

set_option maxHeartbeats 8000000 in
theorem read_rules (rs : List Rul) (v : Value) (w : World) (hv : RulesAt w v rs) (hl : rs.length ≤ 1000000) (hz : ∀ q ∈ rs, q.1.length ≤ 1000000 ∧ q.2.length ≤ 1000000) (hT : RT0 w) (hN : NamesAt w) :
    Calls Tryz.prog 34 #[v] w (ReadQ (readL rs) w) := by
  obtain ⟨a, cap, rfl, hcell⟩ := hv
  obtain ⟨r, hr⟩ : ∃ r, readL rs = r := ⟨_, rfl⟩
  rw [hr]
  have HR := Lib.hid hr
  have HC := Lib.hid hcell
  have HZ := Lib.hid hz
  have HT := Lib.hid hT
  have HN := Lib.hid hN
  have hmm := @run_makeMap Tryz.prog
  clear hr hcell hz hT hN
  go_enter Tryz.func34, Tryz.ntmps34
  go_wp2
  obtain ⟨w1, hrun, hown1, hgrow⟩ := (World.ownsMap_made (H := Unit) w Tryz.prog 9 (plainElem Tryz.prog 3)).update (Maps.string_keyed Tryz.underlying9) Tryz.underlying115 (by unfold maxLen; omega) (WideMaps.keyOf_string_mk (s := ⟨#[111, 116, 104, 101, 114]⟩) Tryz.underlying9 (by decide)) (plainElem_int Tryz.underlying3 (q := .i64) (a := 1) (by decide))
  rw [hrun]
  simp only [Result.andThen]
  have hb : Below w.heap.size w w1 := ((Below.refl _ _).alloc (Nat.le_refl _) _).grown hgrow (by simp) (fun j hj => by cases hj; exact Nat.le_refl _)
  have HOWN := Lib.hid hown1
  clear hrun hown1 hgrow
  obtain ⟨mb, hmb⟩ : ∃ mb, mb = w.heap.size := ⟨_, rfl⟩
  rw [← hmb] at HOWN
  go_wp2
  rw [← hmb]
  have HMB := Lib.hid hmb
  clear hmb
  go_loopw [2, 13] (fun sv i wr => ∃ k : Nat, k ≤ rs.length ∧ i = .int .i64 k ∧ ReadRel rs r mb w sv k wr) (fun _ i _ => rs.length - (intOf i).toNat)
  case atStart => exact ⟨0, Nat.zero_le _, rfl, [], [[111, 116, 104, 101, 114]], _, RowS.nil _ _, HOWN.out, seen_start, by simp, hb, by have := HMB.out; omega, by simp, HR.out⟩
  case round =>
    obtain ⟨k, hk, rfl, S, seen, D, hrow, hmap, hseen, hsl, hbw, hmbw, hSk, hgo⟩ := hrel
    have HROW := Lib.hid hrow
    have HMAP := Lib.hid hmap
    have HSEEN := Lib.hid hseen
    have HGO := Lib.hid hgo
    obtain ⟨sa, sc, rfl⟩ := hrow.form
    clear hrow hmap hseen hgo hb
    by_cases hlt : k < rs.length
    · obtain ⟨g, o, rfl, c1, c2⟩ := HC.out k hlt
      have d1 := (hbw.cell (World.block_lt_of_cell? w _ c1)).trans c1
      have d2 := (hbw.cell (World.block_lt_of_cell? w _ c2)).trans c2
      clear c1 c2
      go_wp2_with fail
      have hzk := HZ.out rs[k] (List.getElem_mem hlt)
      obtain ⟨nm, hnm⟩ : ∃ nm, rs[k].1 = nm := ⟨_, rfl⟩
      obtain ⟨wh, hwh⟩ : ∃ wh, rs[k].2 = wh := ⟨_, rfl⟩
      rw [hnm, hwh] at hzk
      rw [hnm] at d1 ⊢
      rw [hwh] at d2 ⊢
      have F : ∃ W, W = wr.alloc (.cells #[strv nm, strv wh] 46) ∧ Below wr.heap.size wr W ∧ W.cell? ⟨wr.heap.size, 0, none⟩ = some (strv nm) ∧ W.cell? ⟨wr.heap.size, 1, none⟩ = some (strv wh) := ⟨_, rfl, (Below.refl _ _).alloc (Nat.le_refl _) _, cell_made _ _ _ _ _, cell_made _ _ _ _ _⟩
      obtain ⟨W, hW, hbW, b0, b1⟩ := F
      rw [← hW]
      have hstep : readGo (rs.drop k) seen S = match condL wh with
          | none => none
          | some T => if catIx nm < 0 ∨ nm ∈ seen then none else readGo (rs.drop (k + 1)) (nm :: seen) (S ++ [((catIx nm).toNat, T)]) := by
        rw [List.drop_eq_getElem_cons hlt]
        have hp : rs[k] = (nm, wh) := by rw [← hnm, ← hwh]
        rw [hp, readGo]
      rw [HGO.out] at hstep
      have HST := Lib.hid hstep
      have hbW0 : Below w.heap.size w W := hbw.trans (hbW.mono hbw.size)
      obtain ⟨B, hB⟩ : ∃ B, B = wr.heap.size := ⟨_, rfl⟩
      rw [← hB] at b0 b1 ⊢
      have HBB := Lib.hid hB
      clear hW hstep hnm hwh d1 d2 hB
      have hS0 : W.drew.cell? ⟨B, 0, none⟩ = some (strv nm) := b0
      refine wp_region_takes (fun W' : World => W'.cell? ⟨B, 0, none⟩ = some (strv nm)) [0, 1, 2] 2 (by intro _ _ d _ _ h; cases d <;> exact h) (by kernel_rfl) (by kernel_rfl) hS0 ?_
      (iterate 3 (first | (refine takes_yes (v := ?_) rfl (by rfl) ?_ ?_; rotate_left; (focus ((intro w' hS'; (try dsimp only at hS'); go_simp; try (with_reducible rfl)); done)); (try simp only [Act.put, List.setIfInBounds_toArray, List.set_cons_zero, List.set_cons_succ])) | (refine takes_no rfl (by rfl) ?_; (try simp only [Act.put, List.setIfInBounds_toArray, List.set_cons_zero, List.set_cons_succ]))))
      refine takes_nil ?_
      refine wpAnyH_only 3 (by kernel_rfl) rfl (fun K hK => ?_)
      go_simp
      have hnd : NamesAt W.drew := HN.out.below (show Below w.heap.size w W.drew from hbW0.drew)
      refine (Tryz.slices_Index_string 1 0 6 6 catsB ⟨nm.toArray⟩ _ (by decide) (by decide) (fun j hj => by rw [Nat.zero_add]; exact hnd j hj)).mono ?_
      rintro e w' ⟨rfl, rfl⟩
      refine hK.out _ _ hS0 (fun _ => ?_)
      clear hK K
      refine wpAnyH_more [4] 0 rfl (by intro _ _ d _ _ h; cases d <;> exact h) (by kernel_rfl) (by kernel_rfl) hS0 ?_
      (iterate 1 (first | (refine takes_yes (v := ?_) rfl (by rfl) ?_ ?_; rotate_left; (focus ((intro w' hS'; (try dsimp only at hS'); go_simp; try (with_reducible rfl)); done)); (try simp only [Act.put, List.setIfInBounds_toArray, List.set_cons_zero, List.set_cons_succ])) | (refine takes_no rfl (by rfl) ?_; (try simp only [Act.put, List.setIfInBounds_toArray, List.set_cons_zero, List.set_cons_succ]))))
      refine takes_nil ?_
      refine wpAnyH_done (by kernel_rfl) ?_ _
      have hix : Lib.idxOfS (catsB.take 6) ⟨nm.toArray⟩ = catIx nm := rfl
      rw [hix]
      obtain ⟨ix, hixx⟩ : ∃ ix, catIx nm = ix := ⟨_, rfl⟩
      rw [hixx] at HST ⊢
      have hcnd := condition_any ⟨wh.toArray⟩ W.drew (by rw [size_mk]; omega) (HT.out.below hbW0.drew)
      rw [toList_mk] at hcnd
      have HCND := Lib.hid hcnd
      have b1d : W.drew.cell? ⟨B, 1, none⟩ = some (strv wh) := b1
      clear hix hixx hcnd hnd
      go_wp2_with fail
      refine HCND.out.mono ?_
      rintro e w3 ⟨hq, hb3⟩
      have hb3' : Below W.heap.size W w3 := (Below.refl _ W).drew.trans hb3
      have hbw3 : Below w.heap.size w w3 := hbW0.trans (hb3'.mono hbW0.size)
      have hB : B < W.heap.size := World.block_lt_of_cell? W _ b0
      have e0 := (hb3'.cell (p := ⟨B, 0, none⟩) hB).trans b0
      have HROW3 := Lib.hid ((HROW.out.below hbW).below hb3')
      have HMAP3 := Lib.hid (map_below (map_below HMAP.out hbW) hb3')
      obtain ⟨c, hlook, hat, hwf⟩ := HMAP3.out.lookup_int (Maps.string_keyed Tryz.underlying9) Tryz.underlying115 Tryz.underlying3 (q := .i64) (by first | rfl | simp [go_sem]) (key := strv nm) (WideMaps.keyOf_string_mk (s := ⟨nm.toArray⟩) Tryz.underlying9 (by rw [size_mk]; unfold maxLen; omega))
      rw [toList_mk] at hat
      obtain ⟨c', hs1, hs2, hs3, hs4⟩ := HSEEN.out.2 nm
      rw [hs1] at hat
      cases hat
      have hef := eql_test
      have hen := eql_niltest
      cases hc : condL wh with
      | none =>
        rw [hc] at hq
        obtain rfl := hq
        have hrn : r = none := by rw [HST.out, hc]
        have HRN := Lib.hid hrn
        clear hc hrn hs2 hs1
        by_cases h1 : ix < 0
        · have g1 : decide (ix < 0) = true := decide_eq_true h1
          go_wp2
          go_ret2
          refine ⟨?_, hbw3⟩
          rw [HRN.out]
          rfl
        · have g1 : decide (ix < 0) = false := decide_eq_false h1
          by_cases h2 : 0 < c
          · have g2 : decide (0 < c) = true := decide_eq_true h2
            go_wp2
            go_ret2
            refine ⟨?_, hbw3⟩
            rw [HRN.out]
            rfl
          · have g2 : decide (0 < c) = false := decide_eq_false h2
            go_wp2
            go_ret2
            refine ⟨?_, hbw3⟩
            rw [HRN.out]
            rfl
      | some T =>
        rw [hc] at hq
        obtain ⟨tv, rfl, hT3⟩ := hq
        have hst := HST.out
        rw [hc] at hst
        dsimp only at hst
        have HST2 := Lib.hid hst
        have HFT := Lib.hid hT3
        obtain ⟨kf, cpf, rfl, _⟩ := hT3
        clear hc hst
        by_cases h1 : ix < 0
        · have g1 : decide (ix < 0) = true := decide_eq_true h1
          have hrn : r = none := by rw [HST2.out, if_pos (.inl h1)]
          have HRN := Lib.hid hrn
          clear hrn hs2 hs1
          go_wp2
          go_ret2
          refine ⟨?_, hbw3⟩
          rw [HRN.out]
          rfl
        · have g1 : decide (ix < 0) = false := decide_eq_false h1
          by_cases h2 : 0 < c
          · have g2 : decide (0 < c) = true := decide_eq_true h2
            have hrn : r = none := by rw [HST2.out, if_pos (.inr (hs2.1 h2))]
            have HRN := Lib.hid hrn
            clear hrn hs2 hs1
            go_wp2
            go_ret2
            refine ⟨?_, hbw3⟩
            rw [HRN.out]
            rfl
          · obtain rfl : c = 0 := by omega
            have hns : ¬ nm ∈ seen := fun hm => h2 (hs2.2 hm)
            have hrc : readGo (rs.drop (k + 1)) (nm :: seen) (S ++ [(ix.toNat, T)]) = r := by rw [HST2.out, if_neg (fun q => q.elim h1 hns)]
            have HRC := Lib.hid hrc
            have HS1 := Lib.hid hs1
            obtain ⟨iN, hiN⟩ : ∃ iN : Nat, ix = (iN : Int) := ⟨ix.toNat, by omega⟩
            subst hiN
            rw [Int.toNat_natCast] at HRC
            obtain ⟨w4, hupd, hmap4, hg4⟩ := HMAP3.out.update (Maps.string_keyed Tryz.underlying9) Tryz.underlying115 (by unfold maxLen; omega) (key := strv nm) (WideMaps.keyOf_string_mk (s := ⟨nm.toArray⟩) Tryz.underlying9 (by rw [size_mk]; unfold maxLen; omega)) (plainElem_int Tryz.underlying3 (q := .i64) (a := 1) (by decide))
            rw [toList_mk] at hmap4
            have hbut4 : But mb w3 w4 := ⟨hg4.os, hg4.tape, hg4.output, hg4.size, fun i hi hn => hg4.block i hi (fun e => hn (by cases e; rfl))⟩
            have hmbl := HMAP3.out.lt
            have hrow4 : RowS (mb + 1) w4 (.slice sa S.length sc) S := HROW3.out.but hbut4 (fun e => by have := (HROW3.out.lt _ e).1; omega) (.inl (Nat.lt_succ_self _))
            have hbw4 : Below w.heap.size w w4 := hbw3.grown hg4 hbw3.size (fun q hq => by cases hq; exact hmbw)
            have hmW : mb < wr.heap.size := HMAP.out.lt
            have hft4 : TestR W.drew.heap.size w3.heap.size w4 (.func (.func kf) #[] cpf) T := HFT.out.keep ⟨hg4.size, fun j j1 j2 => hg4.block j j2 (fun e => by cases e; have := hbW.size; change W.heap.size ≤ mb at j1; omega)⟩ (Nat.le_refl _) (Nat.le_refl _)
            have HFT4 := Lib.hid hft4
            have HMAP4 := Lib.hid hmap4
            obtain ⟨vs, ho4, ht4⟩ := hrow4
            have HO4 := Lib.hid ho4
            have HT4 := Lib.hid ht4
            have e04 : w4.cell? ⟨B, 0, none⟩ = some (strv nm) := hbut4.cell e0 (by show B ≠ mb; have := HBB.out; omega)
            clear hs1 hs2 hrc hft4 hmap4 ho4 ht4 hns h1 h2
            go_wp2_with (at_builtin; refine app_own_at elem_set rfl _ _ rfl (mb + 1) _ S.length vs rfl (HO4.out.alloc _) ⟨w4.heap.size, 0, none⟩ 1 1 [.int .i64 iN, .func (.func kf) #[] cpf] rfl rfl ?k1 ?k2 ?k3 ?k4 ?_)
            case k1 =>
              intro j u hu
              rw [addr_add0]
              match j, hu with
              | 0, hu => simp at hu; subst hu; exact cell_made _ _ _ _ _
              | 1, hu => simp at hu; subst hu; exact cell_made _ _ _ _ _
            case k2 =>
              intro u hu
              simp at hu
              rcases hu with rfl | rfl <;> rfl
            case k3 => omega
            case k4 => have := hg4.size; have := hbW.size; have := hb3'.size; simp; omega
            intro sv' w5 ho5 hg5 hat5
            have hbA : Below w4.heap.size w4 (w4.alloc (.cells #[.int .i64 iN, .func (.func kf) #[] cpf] 120)) := (Below.refl _ _).alloc (Nat.le_refl _) _
            have hrow5 : RowS (mb + 1) w5 sv' (S ++ [(iN, T)]) :=
              RowS.more HT4.out (by have := HO4.out.1; omega) HFT4.out (by have := hbW.size; show mb + 1 ≤ W.heap.size; omega) hg4.size (fun q hq => .inl (by have := (HROW.out.lt q hq).2; have := hbW.size; show q < W.heap.size; omega)) hbA hg5 (by simpa using hat5) ho5
            have hmap5 := (HMAP4.out.alloc (.cells #[.int .i64 iN, .func (.func kf) #[] cpf] 120)).kept hg5 (fun e => by have := (HROW.out.lt mb e.symm).1; omega)
            have hbw5 : Below w.heap.size w w5 := (hbw4.alloc hbw4.size _).grown hg5 (by have := hbw4.size; simp; omega) (fun q hq => by have := (HROW.out.lt q hq).1; omega)
            obtain ⟨a5, c5, rfl⟩ := own_slice ho5
            have HROW5 := Lib.hid hrow5
            have HMAP5 := Lib.hid hmap5
            clear hrow5 hmap5 ho5 hg5 hat5 hbA
            go_wp2
            go_roundw
            case rel => exact ⟨k + 1, by omega, by go_num, S ++ [(iN, T)], nm :: seen, _, by simpa using HROW5.out, HMAP5.out, seen_more HSEEN.out HS1.out, by simp; omega, hbw5, hmbw, by simp; omega, HRC.out⟩
            case measure => simp [intOf]; omega
    · obtain rfl : k = rs.length := by omega
      have hgo := HGO.out
      rw [List.drop_of_length_le (Nat.le_refl _)] at hgo
      have hr : r = some S := by rw [← hgo, readGo]
      have HRR := Lib.hid hr
      clear hgo hr
      go_wp2
      go_ret2
      refine ⟨?_, hbw⟩
      rw [HRR.out]
      exact ⟨sa, sc, rfl, HROW.out.set.keep (keep_refl (Nat.le_refl _)) (by omega) (Nat.le_refl _)⟩
end Go.Proofs.YtpepgmccbkkaaaaGreatDoor

/- The document's rules: Rule, Ruled, Sort as plain functions; and the plain law: what plural.Read says. -/
namespace Go.Proofs.YtpepgmccbkkaaaaGreatDoor
open Go

/-- is a text a rule -/
def ruleB (s : List UInt8) : Bool := (holdsL s ([48], [])).isSome

theorem good_zero : Good ([48], []) := by unfold Good; decide

theorem rule_cond (s : List UInt8) : ruleB s = (condL s).isSome := by
  unfold ruleB
  rw [cond_law s good_zero]
  cases condL s <;> rfl
end Go.Proofs.YtpepgmccbkkaaaaGreatDoor

/- The plain law of rules: what the document says of a list of rules, and of the category of a number, against what plural.Read's set says. -/
namespace Go.Proofs.YtpepgmccbkkaaaaGreatDoor
open Go

/-- a category's name -/
def nmL (k : Nat) : Wd := (catsB.getD k ByteArray.empty).data.toList
def othW : Wd := [111, 116, 104, 101, 114]
/-- the categories but 'other' -/
def cats5 : List Wd := [[122, 101, 114, 111], [111, 110, 101], [116, 119, 111], [102, 101, 119], [109, 97, 110, 121]]

def ruledGo : List Rul → List Wd → Bool
  | [], _ => true
  | (n, c) :: t, seen => decide (n ∈ cats5) && (!(decide (n ∈ seen)) && (ruleB c && ruledGo t (seen ++ [n])))
def ruledL (rs : List Rul) : Bool := ruledGo rs []

/-- the first rule's name that holds -/
def sortL : List Rul → Dg → Wd
  | [], _ => othW
  | (n, c) :: t, x => if holdsL c x = some true then n else sortL t x

theorem cat_mem (n : Wd) : 0 ≤ catIx n ↔ n ∈ cats5 ∨ n = othW := by
  unfold catIx
  rw [Lib.idxOfS_nonneg_iff]
  constructor
  · intro h
    simp only [catsB, List.mem_cons, List.not_mem_nil, or_false] at h
    have e : ∀ (a : Array UInt8), (⟨n.toArray⟩ : ByteArray) = ⟨a⟩ → n = a.toList := fun a q => by
      have := congrArg (fun b : ByteArray => b.data.toList) q
      simpa using this
    rcases h with h | h | h | h | h | h <;> (have := e _ h; simp at this; subst this; simp [cats5, othW])
  · rintro (h | h)
    · simp only [cats5, List.mem_cons, List.not_mem_nil, or_false] at h
      rcases h with h | h | h | h | h <;> (subst h; simp [catsB])
    · subst h
      simp [catsB, othW]

theorem cat_name {n : Wd} (h : 0 ≤ catIx n) : nmL (catIx n).toNat = n := by
  rcases (cat_mem n).1 h with h | h
  · simp only [cats5, List.mem_cons, List.not_mem_nil, or_false] at h
    rcases h with h | h | h | h | h <;> (subst h; decide)
  · subst h
    decide

theorem ruled_read : ∀ (rs : List Rul) (s1 s2 : List Wd) (acc : List (Nat × Tst)), (∀ n, n ∈ s1 ↔ n ∈ s2 ∨ n = othW) → ruledGo rs s2 = (readGo rs s1 acc).isSome
  | [], _, _, _, _ => rfl
  | (n, c) :: t, s1, s2, acc, hs => by
    unfold ruledGo readGo
    rw [rule_cond]
    cases hc : condL c with
    | none => simp
    | some T =>
      dsimp only
      by_cases hn : catIx n < 0 ∨ n ∈ s1
      · rw [if_pos hn]
        have hno : n ∈ cats5 → n ∈ s2 := fun hm => by
          rcases hn with q | q
          · exact absurd ((cat_mem n).2 (.inl hm)) (by omega)
          · rcases (hs n).1 q with q | q
            · exact q
            · subst q; exact absurd hm (by decide)
        by_cases hm : n ∈ cats5
        · simp [hno hm]
        · simp [hm]
      · rw [if_neg hn]
        have h0 : 0 ≤ catIx n := by omega
        have h1 : n ∉ s1 := fun q => hn (.inr q)
        have h2 : n ∉ s2 := fun q => h1 ((hs n).2 (.inl q))
        have h3 : n ≠ othW := fun q => h1 ((hs n).2 (.inr q))
        have h4 : n ∈ cats5 := by
          rcases (cat_mem n).1 h0 with q | q
          · exact q
          · exact absurd q h3
        rw [← ruled_read t (n :: s1) (s2 ++ [n]) (acc ++ [((catIx n).toNat, T)]) (fun m => by
          simp only [List.mem_cons, List.mem_append, hs m, List.not_mem_nil, or_false]
          constructor
          · rintro (q | q | q)
            · exact .inl (.inr q)
            · exact .inl (.inl q)
            · exact .inr q
          · rintro ((q | q) | q)
            · exact .inr (.inl q)
            · exact .inl q
            · exact .inr (.inr q))]
        simp [h2, h4]

/-- the rules are rules just where the set is read -/
theorem ruled_law (rs : List Rul) : ruledL rs = (readL rs).isSome := ruled_read rs _ _ _ (fun n => by simp [othW])

def nameOf (S : List (Nat × Tst)) (x : Dg) : Wd := match S.find? (fun q => q.2 x) with | some q => nmL q.1 | none => othW

theorem name_of (S : List (Nat × Tst)) (x : Dg) : nmL (ofL S x) = nameOf S x := by
  unfold ofL nameOf
  cases S.find? (fun q => q.2 x) with
  | some q => rfl
  | none => show nmL 5 = othW; decide

theorem read_sort : ∀ (rs : List Rul) (seen : List Wd) (acc S : List (Nat × Tst)), readGo rs seen acc = some S → ∃ S', S = acc ++ S' ∧ S'.length = rs.length ∧ (∀ q ∈ S', q.1 < 6) ∧ ∀ x, Good x → nameOf S' x = sortL rs x
  | [], _, acc, S, h => by
    cases h
    exact ⟨[], by simp, rfl, (by simp), fun x _ => rfl⟩
  | (n, c) :: t, seen, acc, S, h => by
    unfold readGo at h
    cases hc : condL c with
    | none => rw [hc] at h; cases h
    | some T =>
      rw [hc] at h
      dsimp only at h
      by_cases hn : catIx n < 0 ∨ n ∈ seen
      · rw [if_pos hn] at h; cases h
      · rw [if_neg hn] at h
        obtain ⟨S', rfl, hl, h6, hx⟩ := read_sort t _ _ _ h
        have h0 : 0 ≤ catIx n := by omega
        refine ⟨((catIx n).toNat, T) :: S', by simp, by simp [hl], ?_, fun x hg => ?_⟩
        · intro q hq
          rcases List.mem_cons.1 hq with rfl | hq
          · show (catIx n).toNat < 6
            rcases (cat_mem n).1 h0 with h | h
            · simp only [cats5, List.mem_cons, List.not_mem_nil, or_false] at h
              rcases h with h | h | h | h | h <;> (subst h; decide)
            · subst h
              decide
          · exact h6 q hq
        · have hcl := cond_law c hg
          rw [hc] at hcl
          unfold sortL
          rw [hcl]
          unfold nameOf
          cases hT : T x
          · rw [List.find?_cons_of_neg (by simp [hT]), if_neg (by simp [hT])]
            exact hx x hg
          · rw [List.find?_cons_of_pos (by simp [hT]), if_pos (by simp [hT])]
            exact cat_name h0

/-- the category of a number -/
theorem sort_law {rs : List Rul} {S : List (Nat × Tst)} (h : readL rs = some S) {x : Dg} (hx : Good x) : nmL (ofL S x) = sortL rs x := by
  obtain ⟨S', rfl, -, -, hs⟩ := read_sort rs _ _ _ h
  rw [name_of]
  exact hs x hx
theorem read_len {rs : List Rul} {S : List (Nat × Tst)} (h : readL rs = some S) : S.length = rs.length ∧ ∀ q ∈ S, q.1 < 6 := by
  obtain ⟨S', rfl, hl, h6, -⟩ := read_sort rs _ _ _ h
  exact ⟨by simpa using hl, by simpa using h6⟩
end Go.Proofs.YtpepgmccbkkaaaaGreatDoor

/- keeps' locales: english, bare; pick; plural.Read of real rules, for Number's contracts. -/
namespace Go.Proofs.YtpepgmccbkkaaaaGreatDoor
open Go Go.RowKit
set_option maxRecDepth 10000

/-- the rules of the locale english -/
def engC : List Rul := [([111, 110, 101], [105, 32, 61, 32, 49, 32, 97, 110, 100, 32, 118, 32, 61, 32, 48])]
def engO : List Rul := [([111, 110, 101], [110, 32, 37, 32, 49, 48, 32, 61, 32, 49, 32, 97, 110, 100, 32, 110, 32, 37, 32, 49, 48, 48, 32, 33, 61, 32, 49, 49]), ([116, 119, 111], [110, 32, 37, 32, 49, 48, 32, 61, 32, 50, 32, 97, 110, 100, 32, 110, 32, 37, 32, 49, 48, 48, 32, 33, 61, 32, 49, 50]), ([102, 101, 119], [110, 32, 37, 32, 49, 48, 32, 61, 32, 51, 32, 97, 110, 100, 32, 110, 32, 37, 32, 49, 48, 48, 32, 33, 61, 32, 49, 51])]

theorem eng_ruled : (readL engC).isSome = true ∧ (readL engO).isSome = true := by
  rw [← ruled_law, ← ruled_law]
  constructor <;> kernel_rfl

theorem pread_rules (rs : List Rul) (v : Value) (w : World) (hv : RulesAt w v rs) (hl : rs.length ≤ 1000000) (hz : ∀ q ∈ rs, q.1.length ≤ 1000000 ∧ q.2.length ≤ 1000000) (hT : RT0 w) (hN : NamesAt w) :
    PReadAt w v (readL rs).isSome (fun _ _ => True) := by
  intro W hW
  refine (read_rules rs v W (hv.below hW) hl hz (hT.below hW) (hN.below hW)).mono ?_
  rintro e w1 ⟨hq, hb⟩
  cases hr : readL rs with
  | none => rw [hr] at hq; exact ⟨⟨_, _, _, hq, fun _ _ => trivial⟩, hb⟩
  | some S =>
    rw [hr] at hq
    obtain ⟨a, c, he, _⟩ := hq
    exact ⟨⟨_, _, _, he, fun _ _ => trivial⟩, hb⟩

set_option maxHeartbeats 1000000 in
theorem pick_any (c : Int) (n : Nat) (w : World) (hn : 0 < n) (hn2 : n ≤ 1000000000000) (hc : -9223372036854775808 ≤ c ∧ c ≤ 9223372036854775807) :
    Calls Tryz.prog 9 #[.int .i64 c, .int .i64 n] w fun e w' => (∃ k : Nat, k < n ∧ e = .returned (.int .i64 k)) ∧ w = w' := by
  have hn0 : ((n : Int) == 0) = false := by simp; omega
  by_cases h : c < 0
  · have g1 : decide (c < 0) = true := decide_eq_true h
    have h1 : IntKind.i64.wrap (c + 1) = c + 1 := by simp [IntKind.wrap, IntKind.signed, IntKind.bits]; omega
    have h2 : IntKind.i64.wrap (-(c + 1)) = -(c + 1) := by simp [IntKind.wrap, IntKind.signed, IntKind.bits]; omega
    obtain ⟨m, hm⟩ : ∃ m : Nat, -(c + 1) = m := ⟨(-(c + 1)).toNat, by omega⟩
    have HF := Lib.hid (show m % n < n from Nat.mod_lt _ hn)
    rw [hm] at h2
    go_enter Tryz.func9, Tryz.ntmps9
    go_wp2
    go_ret
    exact ⟨⟨m % n, HF.out, by rfl⟩, rfl⟩
  · have g1 : decide (c < 0) = false := decide_eq_false h
    obtain ⟨m, rfl⟩ : ∃ m : Nat, c = m := ⟨c.toNat, by omega⟩
    have HF := Lib.hid (show m % n < n from Nat.mod_lt _ hn)
    go_enter Tryz.func9, Tryz.ntmps9
    go_wp2
    go_ret
    exact ⟨⟨m % n, HF.out, by rfl⟩, rfl⟩

set_option maxHeartbeats 1000000 in
theorem bare_any (w : World) : Calls Tryz.prog 10 #[] w fun e w' => e = .returned (locv (.slice none 0 0) (.slice none 0 0) 45 46 0 0 0 ⟨#[]⟩) ∧ Below w.heap.size w w' := by
  go_enter Tryz.func10, Tryz.ntmps10
  go_wp2
  refine bodyPost_ret (v := locv (.slice none 0 0) (.slice none 0 0) 45 46 0 0 0 ⟨#[]⟩) ?_ rfl ⟨rfl, ?_⟩
  · simp [results, Tryz.results10, go_sem]
  · (repeat (first | (with_reducible exact Below.refl _ _) | (with_reducible refine Below.alloc ?_ ?_ _; rotate_left; focus (first | (simp; done) | (simp; omega))) | (with_reducible refine Below.setCell ?_ ?_ _; rotate_left; focus (first | (simp; done) | (simp; omega)))))

set_option maxHeartbeats 4000000 in
theorem english_any (w : World) : Calls Tryz.prog 7 #[] w fun e w' => (∃ c o, e = .returned (locv c o 45 46 44 3 0 ⟨#[]⟩) ∧ RulesAt w' c engC ∧ RulesAt w' o engO) ∧ Below w.heap.size w w' := by
  go_enter Tryz.func7, Tryz.ntmps7
  go_wp2
  refine bodyPost_ret (v := locv (.slice (some ⟨w.heap.size + 1, 0, none⟩) 1 1) (.slice (some ⟨w.heap.size + 1 + 1 + 1, 0, none⟩) 3 3) 45 46 44 3 0 ⟨#[]⟩) ?_ rfl ⟨⟨_, _, rfl, ⟨_, _, rfl, fun j hj => ⟨_, _, rfl, ?_, ?_⟩⟩, ⟨_, _, rfl, fun j hj => ⟨_, _, rfl, ?_, ?_⟩⟩⟩, ?_⟩
  · simp [results, Tryz.results7, go_sem]
  · obtain rfl : j = 0 := by have : j < 1 := hj; omega
    go_simp
    rfl
  · obtain rfl : j = 0 := by have : j < 1 := hj; omega
    go_simp
    rfl
  · have : j < 3 := hj
    match j, this with
    | 0, _ => (go_simp; rfl)
    | 1, _ => (go_simp; rfl)
    | 2, _ => (go_simp; rfl)
  · have : j < 3 := hj
    match j, this with
    | 0, _ => (go_simp; rfl)
    | 1, _ => (go_simp; rfl)
    | 2, _ => (go_simp; rfl)
  · (repeat (first | (with_reducible exact Below.refl _ _) | (with_reducible refine Below.alloc ?_ ?_ _; rotate_left; focus (first | (simp; done) | (simp; omega))) | (with_reducible refine Below.setCell ?_ ?_ _; rotate_left; focus (first | (simp; done) | (simp; omega)))))
end Go.Proofs.YtpepgmccbkkaaaaGreatDoor

/- The plain law of Grouped: without its groups' signs a number is as it came; how many there are. -/
namespace Go.Proofs.YtpepgmccbkkaaaaGreatDoor
open Go Go.RowKit
set_option maxRecDepth 10000

theorem enc_lit : enc 45 = [45] ∧ enc 46 = [46] ∧ enc 44 = [44] := by decide

theorem shown_nil (ds : List UInt8) : shownL [] ds = ds := by unfold shownL; rw [if_pos rfl]

theorem dig_not {c d : UInt8} (h : isDig c = true) (hd : isDig d = false) : c ≠ d := fun e => by rw [e, hd] at h; cases h

theorem keep_digs {l : List UInt8} (h : l.all isDig = true) : l.filter (· != 44) = l := by
  rw [List.filter_eq_self]
  intro c hc
  have := dig_not (List.all_eq_true.1 h c hc) (show isDig 44 = false by decide)
  simpa using this

theorem none_digs {l : List UInt8} (h : l.all isDig = true) : l.count 44 = 0 := by
  rw [List.count_eq_zero]
  intro hm
  exact dig_not (List.all_eq_true.1 h 44 hm) (show isDig 44 = false by decide) rfl

/-- how many signs of groups there are -/
def manyN (a b n : Nat) : Nat := if 0 < a ∧ a < n then 1 + (n - a - 1) / b else 0

theorem many_step {b m : Nat} (hb : 0 < b) (hm : 0 < m) : manyN b b m = (m - 1) / b := by
  unfold manyN
  by_cases h : b < m
  · rw [if_pos ⟨hb, h⟩]
    rw [show m - 1 = (m - b - 1) + b by omega, Nat.add_div_right _ hb]
    omega
  · rw [if_neg (by omega), Nat.div_eq_of_lt (by omega)]

theorem grp_law (nx : Nat) : ∀ (k : Nat) (w : List UInt8) (n : Nat), w.length ≤ k → w.all isDig = true → (0 < n → 0 < nx) →
    (grpL [] [44] nx w n).filter (· != 44) = w ∧ (grpL [] [44] nx w n).count 44 = manyN n nx w.length := by
  intro k
  induction k with
  | zero =>
    intro w n hk _ _
    have : w = [] := List.eq_nil_of_length_eq_zero (by omega)
    subst this
    rw [grpL_end (by simp)]
    rw [shown_nil]
    refine ⟨rfl, ?_⟩
    unfold manyN
    rw [if_neg (by simp)]
    rfl
  | succ k ih =>
    intro w n hk hw hn
    by_cases h : 0 < n ∧ n < w.length
    · have htd : w = w.take (w.length - n) ++ w.drop (w.length - n) := (List.take_append_drop _ _).symm
      have hw2 := hw
      rw [htd, List.all_append, Bool.and_eq_true] at hw2
      obtain ⟨i1, i2⟩ := ih (w.take (w.length - n)) nx (by simp; omega) hw2.1 (fun _ => hn h.1)
      rw [grpL_step h, shown_nil]
      refine ⟨?_, ?_⟩
      · rw [List.filter_append, List.filter_append, i1, keep_digs hw2.2]
        simp
      · rw [List.count_append, List.count_append, i2, none_digs hw2.2, many_step (hn h.1) (by simp; omega)]
        unfold manyN
        rw [if_pos h, List.length_take, Nat.min_eq_left (by omega)]
        simp
        omega
    · rw [grpL_end h, shown_nil]
      refine ⟨keep_digs hw, ?_⟩
      rw [none_digs hw]
      unfold manyN
      rw [if_neg h]

/-- a number's text out of its parts -/
theorem num_text {s : List UInt8} (h : isNumL s = true) : s = (if negL s then [45] else []) ++ wholeL s ++ (if fracL s = [] then [] else 46 :: fracL s) := by
  obtain ⟨d1, d2, hl, h30⟩ := num_parts h
  have habs : s = (if negL s then [45] else []) ++ absL s := by
    unfold negL absL
    cases s with
    | nil => rfl
    | cons c t =>
      simp only [List.head?_cons, Option.some.injEq]
      by_cases hc : c = 45
      · subst hc; simp
      · simp [hc]
  have hform := h
  simp only [isNumL, formL, Bool.and_eq_true, Bool.or_eq_true] at hform
  have hf := hform.1.1.1.2
  have hparts : absL s = wholeL s ++ (if fracL s = [] then [] else 46 :: fracL s) := by
    by_cases hp : pointL s = true
    · have hf2 : numeralsL (fracL s) = true := by
        rcases hf with hf | hf
        · rw [hp] at hf; cases hf
        · exact hf
      have hne : fracL s ≠ [] := fun e => by rw [e] at hf2; cases hf2
      rw [if_neg hne]
      have hlt : (absL s).idxOf 46 < (absL s).length := by simpa [pointL] using hp
      have hget : (absL s)[(absL s).idxOf 46] = 46 := List.getElem_idxOf hlt
      have hd : (absL s).drop ((absL s).idxOf 46) = 46 :: (absL s).drop ((absL s).idxOf 46 + 1) := by rw [List.drop_eq_getElem_cons hlt, hget]
      unfold wholeL fracL
      rw [← hd, List.take_append_drop]
    · have hlt : ¬ (absL s).idxOf 46 < (absL s).length := by simpa [pointL] using hp
      have he : fracL s = [] := by unfold fracL; exact List.drop_of_length_le (by omega)
      rw [if_pos he]
      unfold wholeL
      rw [List.take_of_length_le (by omega), List.append_nil]
  rw [List.append_assoc, ← hparts]
  exact habs

/-- without groups it is written as it came -/
theorem bare_text {s : List UInt8} (h : isNumL s = true) : writtenL (negL s) (wholeL s) (fracL s) [] 45 46 0 0 0 = s := by
  unfold writtenL
  rw [if_pos rfl, if_pos rfl, grpL_end (by simp), shown_nil, shown_nil, enc_lit.1, enc_lit.2.1]
  conv => rhs; rw [num_text h]
  rfl

theorem group_text {s : List UInt8} (h : isNumL s = true) (a b : Nat) :
    (writtenL (negL s) (wholeL s) (fracL s) [] 45 46 44 a b).filter (· != 44) = s ∧ (writtenL (negL s) (wholeL s) (fracL s) [] 45 46 44 a b).count 44 = manyN a (if b = 0 then a else b) (wholeL s).length := by
  obtain ⟨d1, d2, hl, h30⟩ := num_parts h
  obtain ⟨g1, g2⟩ := grp_law (if b = 0 then a else b) _ (wholeL s) a (Nat.le_refl _) d1 (fun q => by split <;> omega)
  unfold writtenL
  rw [show (if (44 : Int) = 0 then 0 else a) = a from if_neg (by decide), shown_nil, enc_lit.1, enc_lit.2.1, enc_lit.2.2]
  have hneg : ((if negL s then [45] else []) : List UInt8).filter (· != 44) = (if negL s then [45] else []) ∧ ((if negL s then [45] else []) : List UInt8).count 44 = 0 := by
    cases negL s <;> exact ⟨rfl, rfl⟩
  have hfr : (if fracL s = [] then [] else [46] ++ fracL s).filter (· != 44) = (if fracL s = [] then [] else 46 :: fracL s) ∧ (if fracL s = [] then [] else [46] ++ fracL s).count 44 = 0 := by
    by_cases hf : fracL s = []
    · rw [if_pos hf, if_pos hf]; exact ⟨rfl, rfl⟩
    · rw [if_neg hf, if_neg hf]
      refine ⟨?_, ?_⟩
      · rw [List.filter_append, keep_digs d2]; rfl
      · rw [List.count_append, none_digs d2]; rfl
  refine ⟨?_, ?_⟩
  · rw [List.filter_append, List.filter_append, hneg.1, g1, hfr.1]
    exact (num_text h).symm
  · rw [List.count_append, List.count_append, hneg.2, g2, hfr.2]
    omega

/-- up to the point there are the digits, and the sign -/
theorem num_point {s : List UInt8} (h : isNumL s = true) : s.idxOf 46 = (if negL s then 1 else 0) + (wholeL s).length := by
  obtain ⟨d1, d2, hl, h30⟩ := num_parts h
  have hw : (46 : UInt8) ∉ wholeL s := fun q => dig_not (List.all_eq_true.1 d1 46 q) (show isDig 46 = false by decide) rfl
  have hn : (46 : UInt8) ∉ (if negL s then [45] else []) ++ wholeL s := by
    cases negL s <;> simp [hw]
  rw [num_text h, List.idxOf_append, if_neg hn]
  have hz : (if fracL s = [] then [] else 46 :: fracL s).idxOf (46 : UInt8) = 0 := by
    by_cases hf : fracL s = []
    · rw [if_pos hf]; rfl
    · rw [if_neg hf]; simp
  rw [hz, ← num_text h]
  cases negL s <;> simp <;> omega
end Go.Proofs.YtpepgmccbkkaaaaGreatDoor
