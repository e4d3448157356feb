import Derived.Test.YtdelpialeajajaaGreatDoorJC5
import Derived.OneCell

/- The document's reader: rows that grow, a mark's text that is set. -/
namespace Go.Proofs.YtdelpialeajajaaGreatDoor
open Go Go.RowKit
set_option maxRecDepth 10000

theorem elem_marks : Elem Tryz.prog 52 61 (.agg #[.int .u8 0, .string ⟨#[]⟩, .string ⟨#[]⟩, .string ⟨#[]⟩, .string ⟨#[]⟩, .int .i64 0]) 6 80 :=
  ⟨Tryz.underlying52, info_parts (by kernel_rfl), rfl, by decide, by decide⟩
theorem elem_bools : Elem Tryz.prog 68 4 (.bool false) 1 1 :=
  ⟨Tryz.underlying68, info_parts (by kernel_rfl), rfl, by decide, by decide⟩

theorem own_keptZ {W W' : World} {base : Nat} {row : Option Nat} {e : TypeId} {size n : Nat} {v : Value} {xs : List Value} (h : W.ownsRow base e size v n xs) (hg : W.grownBy W' row) (hne : ∀ g, v.ownBlock = some g → row ≠ some g) : W'.ownsRow base e size v n xs :=
  h.kept hg (by
    cases hv : v.ownBlock with
    | none => exact .inl rfl
    | some g => exact .inr (fun e => hne g hv e.symm))

/-- what of the reader's own cells is kept while a row of its own grows -/
structure Cells5 (p : Nat) (s : ByteArray) (x : Sc) (w : World) : Prop where
  c0 : w.cell? ⟨p, 0, none⟩ = some (.string s)
  c1 : w.cell? ⟨p, 1, none⟩ = some (.int .i64 (x.i : Nat))
  c4 : w.cell? ⟨p, 4, none⟩ = some (.int .i64 (x.err : Nat))
  c5 : w.cell? ⟨p, 5, none⟩ = some (.int .i64 (x.place : Nat))
  z : ∀ j, w.frozen? ⟨p, j, none⟩ = false

theorem ScanAt.cells5 {p : Nat} {s : ByteArray} {x : Sc} {w w1 w' : World} {v : Value} (h : ScanAt p s x w) (hb : Below w.heap.size w w1) (hg : w1.grownBy w' v.ownBlock) (hv : ∀ g, v.ownBlock = some g → p < g) : Cells5 p s x w' := by
  have h1 := h.below hb
  have hlt := h1.lt
  have hne : (some p : Option Nat) ≠ v.ownBlock := fun e => Nat.lt_irrefl _ (hv p e.symm)
  exact ⟨hg.cell h1.c0 hne, hg.cell h1.c1 hne, hg.cell h1.c4 hne, hg.cell h1.c5 hne, fun j => (World.frozen?_of_block (a := ⟨p, j, none⟩) (hg.block p hlt hne)).trans (h1.z j)⟩

theorem ScanAt.grow2 {p : Nat} {s : ByteArray} {x : Sc} {m : Mk} {w w1 w' : World} {v2 v3 v' : Value} (h : ScanAt p s x w)
    (h2' : w.ownsRow (p + 1) 61 6 v2 x.out.length (marksC x.out)) (h2 : w.cell? ⟨p, 2, none⟩ = some v2) (h3 : w.cell? ⟨p, 3, none⟩ = some v3) (h3' : w.ownsRow (p + 1) 4 1 v3 x.opn.length (boolsC x.opn)) (hd : ∀ g, v2.ownBlock = some g → v3.ownBlock ≠ some g)
    (hb : Below w.heap.size w w1) (ho : w'.ownsRow (p + 1) 61 6 v' (x.out.length + 1) (marksC x.out ++ markV m)) (hg : w1.grownBy w' v2.ownBlock)
    (hw : v'.ownBlock = v2.ownBlock ∨ v'.ownBlock = some w1.heap.size) (hl : x.out.length + 1 ≤ 1000000) :
    ScanAt p s { x with out := x.out ++ [m] } (w'.setCell ⟨p, 2, none⟩ v') ∧ Below p w (w'.setCell ⟨p, 2, none⟩ v') := by
  have hr : ∀ g, v2.ownBlock = some g → p < g := fun g e => (h2'.lt g e).1
  have C := h.cells5 hb hg hr
  have hne : (some p : Option Nat) ≠ v2.ownBlock := fun e => Nat.lt_irrefl _ (hr p e.symm)
  have hlt := h.lt
  have o3 := own_keptZ (own_below h3' hb) hg (fun g e q => hd g q e)
  have e3 := hg.cell ((hb.cell (p := ⟨p, 3, none⟩) hlt).trans h3) hne
  have e2 := hg.cell ((hb.cell (p := ⟨p, 2, none⟩) hlt).trans h2) hne
  refine ⟨⟨by rw [cellSet, if_neg (by simp)]; exact C.c0, by rw [cellSet, if_neg (by simp)]; exact C.c1, ⟨v', v3, by rw [cellSet, if_pos rfl, e2]; rfl, ?_, by rw [cellSet, if_neg (by simp)]; exact e3, ownsRow_setCell_below o3 (by show p < p + 1; omega) _, ?_⟩,
    by rw [cellSet, if_neg (by simp)]; exact C.c4, by rw [cellSet, if_neg (by simp)]; exact C.c5, fun j => by rw [World.frozen?_setCell]; exact C.z j, h.size, h.here, by simp; omega, h.lopn⟩, ?_⟩
  · have := ownsRow_setCell_below ho (a := ⟨p, 2, none⟩) (by show p < p + 1; omega) v'
    have e1 : marksC x.out ++ markV m = marksC (x.out ++ [m]) := by simp [marksC]
    rw [e1] at this
    simpa using this
  · intro g e q
    rcases hw with k | k
    · rw [k] at e
      exact hd g e q
    · rw [k] at e
      cases e
      have := (h3'.lt _ q).2
      have := hb.size
      omega
  · exact below_put ((hb.mono (Nat.le_of_lt hlt)).grown hg (Nat.le_trans (Nat.le_of_lt hlt) hb.size) (fun g e => Nat.le_of_lt (hr g e))) (Nat.le_refl _)

theorem ScanAt.grow3 {p : Nat} {s : ByteArray} {x : Sc} {m : Bool} {w w1 w' : World} {v2 v3 v' : Value} (h : ScanAt p s x w)
    (h2' : w.ownsRow (p + 1) 61 6 v2 x.out.length (marksC x.out)) (h2 : w.cell? ⟨p, 2, none⟩ = some v2) (h3 : w.cell? ⟨p, 3, none⟩ = some v3) (h3' : w.ownsRow (p + 1) 4 1 v3 x.opn.length (boolsC x.opn)) (hd : ∀ g, v2.ownBlock = some g → v3.ownBlock ≠ some g)
    (hb : Below w.heap.size w w1) (ho : w'.ownsRow (p + 1) 4 1 v' (x.opn.length + 1) (boolsC x.opn ++ [.bool m])) (hg : w1.grownBy w' v3.ownBlock)
    (hw : v'.ownBlock = v3.ownBlock ∨ v'.ownBlock = some w1.heap.size) (hl : x.opn.length + 1 ≤ 1000000) :
    ScanAt p s { x with opn := x.opn ++ [m] } (w'.setCell ⟨p, 3, none⟩ v') ∧ Below p w (w'.setCell ⟨p, 3, none⟩ v') := by
  have hr : ∀ g, v3.ownBlock = some g → p < g := fun g e => (h3'.lt g e).1
  have C := h.cells5 hb hg hr
  have hne : (some p : Option Nat) ≠ v3.ownBlock := fun e => Nat.lt_irrefl _ (hr p e.symm)
  have hlt := h.lt
  have o2 := own_keptZ (own_below h2' hb) hg (fun g e q => hd g e q)
  have e3 := hg.cell ((hb.cell (p := ⟨p, 3, none⟩) hlt).trans h3) hne
  have e2 := hg.cell ((hb.cell (p := ⟨p, 2, none⟩) hlt).trans h2) hne
  refine ⟨⟨by rw [cellSet, if_neg (by simp)]; exact C.c0, by rw [cellSet, if_neg (by simp)]; exact C.c1, ⟨v2, v', by rw [cellSet, if_neg (by simp)]; exact e2, ownsRow_setCell_below o2 (by show p < p + 1; omega) _, by rw [cellSet, if_pos rfl, e3]; rfl, ?_, ?_⟩,
    by rw [cellSet, if_neg (by simp)]; exact C.c4, by rw [cellSet, if_neg (by simp)]; exact C.c5, fun j => by rw [World.frozen?_setCell]; exact C.z j, h.size, h.here, h.lout, by simp; omega⟩, ?_⟩
  · have := ownsRow_setCell_below ho (a := ⟨p, 3, none⟩) (by show p < p + 1; omega) v'
    have e1 : boolsC x.opn ++ [.bool m] = boolsC (x.opn ++ [m]) := by simp [boolsC]
    rw [e1] at this
    simpa using this
  · intro g e q
    rcases hw with k | k
    · rw [k] at q
      exact hd g e q
    · rw [k] at q
      cases q
      have := (h2'.lt _ e).2
      have := hb.size
      omega
  · exact below_put ((hb.mono (Nat.le_of_lt hlt)).grown hg (Nat.le_trans (Nat.le_of_lt hlt) hb.size) (fun g e => Nat.le_of_lt (hr g e))) (Nat.le_refl _)

/-- a cell of the call's own row is written -/
theorem own_set {w : World} {base : Nat} {e : TypeId} {size n g cap : Nat} {xs : List Value} (h : w.ownsRow base e size (.slice (some ⟨g, 0, none⟩) n cap) n xs) (j : Nat) (hj : j < n * size) (u : Value) :
    (w.setCell ⟨g, j, none⟩ u).ownsRow base e size (.slice (some ⟨g, 0, none⟩) n cap) n (xs.set j u) := by
  obtain ⟨h1, h2⟩ := h
  refine ⟨by simp [h1], ?_⟩
  rcases h2 with ⟨h2, _⟩ | ⟨g', cap', cur, hv, hg, hh, k1, k2, k3, k4⟩
  · cases h2
  · cases hv
    have hlt := lt_of_block hh
    have h' : w.heap[g] = .cells cur e (0, 0) := by simpa [Array.getElem?_eq_getElem hlt] using hh
    refine .inr ⟨g, cap, cur.setIfInBounds j u, rfl, hg, ?_, k1, k2, by simp [k3], ?_⟩
    · show (w.heap.modify g _)[g]? = _
      rw [Array.getElem?_eq_getElem (by simpa using hlt), Array.getElem_modify_self, h']
      rfl
    · rw [Array.toList_setIfInBounds, List.take_set, k4]

theorem marks_set (l : List Mk) (m : Mk) (t : Wd) : (marksC (l ++ [m])).set (l.length * 6 + 1) (strv t) = marksC (l ++ [{ m with text := t }]) := by
  have hl : (marksC l).length = l.length * 6 := by
    unfold marksC
    induction l with
    | nil => rfl
    | cons a r ih => simp only [List.flatMap_cons, List.length_append, ih, List.length_cons]; simp [markV]; omega
  have e : ∀ k : Mk, marksC (l ++ [k]) = marksC l ++ markV k := fun k => by simp [marksC]
  rw [e, e, List.set_append_right _ _ (by omega), hl, Nat.add_sub_cancel_left]
  rfl
theorem marks_len (l : List Mk) : (marksC l).length = l.length * 6 := by
  unfold marksC
  induction l with
  | nil => rfl
  | cons a r ih => simp only [List.flatMap_cons, List.length_append, ih, List.length_cons]; simp [markV]; omega
theorem marks_at (l : List Mk) (m : Mk) (j : Nat) (hj : j < 6) : (marksC (l ++ [m]))[l.length * 6 + j]? = (markV m)[j]? := by
  rw [show marksC (l ++ [m]) = marksC l ++ markV m by simp [marksC], List.getElem?_append_right (by rw [marks_len]; omega), marks_len, Nat.add_sub_cancel_left]

/-- the last mark's text is written -/
theorem ScanAt.text {p : Nat} {s : ByteArray} {x : Sc} {l : List Mk} {m : Mk} {w : World} {g n cap : Nat} {v3 : Value} (h : ScanAt p s x w) (hx : x.out = l ++ [m]) (hn : n = l.length + 1)
    (h2' : w.ownsRow (p + 1) 61 6 (.slice (some ⟨g, 0, none⟩) n cap) x.out.length (marksC x.out)) (h2 : w.cell? ⟨p, 2, none⟩ = some (.slice (some ⟨g, 0, none⟩) n cap)) (h3 : w.cell? ⟨p, 3, none⟩ = some v3) (h3' : w.ownsRow (p + 1) 4 1 v3 x.opn.length (boolsC x.opn)) (hd : ∀ q, Value.ownBlock (.slice (some ⟨g, 0, none⟩) n cap) = some q → v3.ownBlock ≠ some q) (t : Wd) :
    ScanAt p s { x with out := l ++ [{ m with text := t }] } (w.setCell ⟨g, l.length * 6 + 1, none⟩ (strv t)) ∧ Below p w (w.setCell ⟨g, l.length * 6 + 1, none⟩ (strv t)) := by
  have hpg := (h2'.lt g rfl).1
  have hlen : x.out.length = l.length + 1 := by rw [hx]; simp
  have hne : ∀ j : Nat, (⟨g, l.length * 6 + 1, none⟩ : Addr) ≠ ⟨p, j, none⟩ := fun j e => by cases e; omega
  have ho := h2'
  rw [hlen, ← hn] at ho
  have ho2 := own_set ho (l.length * 6 + 1) (by omega) (strv t)
  rw [hx, marks_set] at ho2
  refine ⟨⟨by rw [cellSet, if_neg (hne _)]; exact h.c0, by rw [cellSet, if_neg (hne _)]; exact h.c1, ⟨_, v3, by rw [cellSet, if_neg (hne _)]; exact h2, ?_, by rw [cellSet, if_neg (hne _)]; exact h3, ownsRow_setCell_other h3' (hd g rfl) _, hd⟩,
    by rw [cellSet, if_neg (hne _)]; exact h.c4, by rw [cellSet, if_neg (hne _)]; exact h.c5, fun j => by rw [World.frozen?_setCell]; exact h.z j, h.size, h.here, by have := h.lout; simp; omega, h.lopn⟩, below_put (Below.refl _ _) (by omega)⟩
  have e1 : (l ++ [{ m with text := t }]).length = n := by simp; omega
  show World.ownsRow _ _ _ _ _ (l ++ [{ m with text := t }]).length _
  rw [e1]
  exact ho2
end Go.Proofs.YtdelpialeajajaaGreatDoor

/- Regions that draw their order and end in a store to a cell that they load: the loads are taken first, up to operation k. -/
namespace Go.Proofs.YtdelpialeajajaaGreatDoor
open Go Go.RowKit

section
variable {P : Program} {ops : Array Oper} {Q : Exit → Act → World → Prop} {md : Region.Mode} {S : World → Prop}

/-- whatever is listed, what it waits for is listed too -/
def ClosedL (md : Region.Mode) (ops : Array Oper) (L : Array Bool) : Prop :=
  ∀ j oj, ops[j]? = some oj → L.getD j false = true → ∀ e ∈ oj.after, Region.binds md e = true → L.getD e.on false = true
def closedB (md : Region.Mode) (ops : Array Oper) (L : Array Bool) : Bool :=
  (List.range ops.size).all fun j => !L.getD j false || ((ops[j]?).map (·.after.all fun e => !Region.binds md e || L.getD e.on false)).getD true

theorem closedB_spec {L : Array Bool} (h : closedB md ops L = true) : ClosedL md ops L := by
  intro j oj hj hl e he hb
  unfold closedB at h
  rw [List.all_eq_true] at h
  have h1 := h j (List.mem_range.2 (Array.getElem?_eq_some_iff.1 hj).1)
  rw [hl, hj] at h1
  simp only [Bool.not_true, Bool.false_or, Option.map_some, Option.getD_some, Array.all_eq_true] at h1
  obtain ⟨n, hn, rfl⟩ := Array.mem_iff_getElem.1 he
  have h2 := h1 n hn
  rw [hb] at h2
  simpa using h2

theorem ClosedL.step {L : Array Bool} {j : Nat} (hc : ClosedL md ops L) (hj : j ∈ Region.ready md ops L) : ClosedL md ops (L.setIfInBounds j true) := by
  intro x ox hx hl e he hb
  by_cases hxj : j = x
  · subst hxj
    obtain ⟨_, o, ho, hall⟩ := mem_ready.1 hj
    rw [hx] at ho
    cases ho
    exact getD_set_true (hall e he hb)
  · rw [getD_set_ne false hxj] at hl
    exact getD_set_true (hc x ox hx hl e he hb)

/-- k waits for i -/
def waits (md : Region.Mode) (ops : Array Oper) (i : Nat) : Nat → Nat → Bool
  | 0, _ => false
  | n + 1, k => ((ops[k]?).map (·.after.any fun e => Region.binds md e && (e.on == i || waits md ops i n e.on))).getD false

theorem waits_spec {L : Array Bool} (hc : ClosedL md ops L) {i : Nat} : ∀ (n k : Nat), waits md ops i n k = true → L.getD k false = true → L.getD i false = true
  | 0, _, h, _ => by cases h
  | n + 1, k, h, hl => by
    rw [waits] at h
    cases ho : ops[k]? with
    | none => rw [ho] at h; cases h
    | some o =>
      rw [ho] at h
      simp only [Option.map_some, Option.getD_some, Array.any_eq_true] at h
      obtain ⟨m, hm, h2⟩ := h
      simp only [Bool.and_eq_true, Bool.or_eq_true, beq_iff_eq] at h2
      have h3 := hc k o ho hl o.after[m] (Array.getElem_mem hm) h2.1
      rcases h2.2 with h4 | h4
      · rw [h4] at h3; exact h3
      · exact waits_spec hc n _ h4 h3

/-- whatever order is picked from here on, and S holds behind every operation that is carried out ahead of k -/
def wpAnyK (P : Program) (md : Region.Mode) (ops : Array Oper) (Q : Exit → Act → World → Prop) (S : World → Prop) (k : Nat) : Nat → Array Bool → Act → World → Prop
  | 0, listed, a, w => Region.ready md ops listed = [] ∧ Q .normal a w
  | fuel + 1, listed, a, w =>
    (Region.ready md ops listed = [] → Q .normal a w) ∧
    ∀ i ∈ Region.ready md ops listed, wpOp P ops Q i (fun a' w' => ((listed.setIfInBounds i true).getD k false = false → S w') ∧ wpAnyK P md ops Q S k fuel (listed.setIfInBounds i true) a' w') a w

theorem wpAny_of_K {k : Nat} : ∀ (fuel : Nat) (listed : Array Bool) (a : Act) (w : World), wpAnyK P md ops Q S k fuel listed a w → wpAny P md ops Q fuel listed a w
  | 0, _, _, _, h => h
  | fuel + 1, _, _, _, h => ⟨h.1, fun i hi => wpOp_mono (fun a' w' h' => wpAny_of_K fuel _ a' w' h'.2) (h.2 i hi)⟩

theorem wpAnyK_first {i k n : Nat} {oi : Oper} {v : Value} (hi : ops[i]? = some oi) (hsel : ∀ (j : Nat) (o : Oper) cs b, ops[j]? = some o → o.op ≠ .select cs b)
    (hQ : ∀ c a w, Q (.panic c) (a.put oi.dst v) w → Q (.panic c) a w) (hk : waits md ops i n k = true) (hki : k ≠ i) :
    ∀ (fuel : Nat) (listed : Array Bool) (a : Act) (w : World),
      (∀ j oj, ops[j]? = some oj → j ≠ i → listed.getD j true = false → (∀ e ∈ oj.after, Region.binds md e = true → e.on ≠ i) → oi.apart ops oj = true) →
      i ∈ Region.ready md ops listed → ClosedL md ops listed → YieldsIf P ops S oi v a → S w →
      wpAnyK P md ops Q S k fuel (listed.setIfInBounds i true) (a.put oi.dst v) w → wpAnyK P md ops Q S k (fuel + 1) listed a w := by
  intro fuel
  induction fuel with
  | zero =>
    intro listed a w _ hr _ hy hS H
    refine ⟨fun h => (by rw [h] at hr; cases hr), fun j hj => ?_⟩
    by_cases hji : j = i
    · subst hji; exact hy.wpOp hi hS ⟨fun _ => hS, H⟩
    · have := ready_mono hj hji
      rw [H.1] at this
      cases this
  | succ fuel ih =>
    intro listed a w hfree hr hc hy hS H
    refine ⟨fun h => (by rw [h] at hr; cases hr), fun j hj => ?_⟩
    by_cases hji : j = i
    · subst hji; exact hy.wpOp hi hS ⟨fun _ => hS, H⟩
    · have h1 := H.2 j (ready_mono hj hji)
      obtain ⟨hjun, oj, hoj, hall⟩ := mem_ready.1 hj
      have hi0 := (mem_ready.1 hr).1
      have hi1 : listed.getD i false = false := by
        rcases Nat.lt_or_ge i listed.size with h' | h'
        · simp [h'] at hi0 ⊢; exact hi0
        · simp [Array.getElem?_eq_none h']
      have hnot : ∀ e ∈ oj.after, Region.binds md e = true → e.on ≠ i := fun e he hb heq => by
        have h1 := hall e he hb
        rw [heq, hi1] at h1
        cases h1
      have h2 := wpOp_putIf hoj (hfree j oj hoj hji hjun hnot) (fun cs b => hsel i oi cs b hi) (fun cs b => hsel j oj cs b hoj) hQ hy h1
      have hfree' : ∀ k ok, ops[k]? = some ok → k ≠ i → (listed.setIfInBounds j true).getD k true = false →
          (∀ e ∈ ok.after, Region.binds md e = true → e.on ≠ i) → oi.apart ops ok = true := fun k ok hk hki hun hno => by
        refine hfree k ok hk hki ?_ hno
        by_cases hjk : j = k
        · subst hjk; exact hjun
        · rw [getD_set_ne true hjk] at hun; exact hun
      have hcj := hc.step hj
      have hun : (listed.setIfInBounds j true).getD k false = false := by
        cases hq : (listed.setIfInBounds j true).getD k false with
        | false => rfl
        | true =>
          have h3 := waits_spec hcj n k hk hq
          rw [getD_set_ne false hji, hi1] at h3
          cases h3
      have hun2 : ((listed.setIfInBounds i true).setIfInBounds j true).getD k false = false := by
        rw [Array.setIfInBounds_comm _ _ (Ne.symm hji), getD_set_ne false (Ne.symm hki)]
        exact hun
      refine wpOp_mono (fun a' w' h3 => ⟨fun _ => h3.2.1 hun2, ih (listed.setIfInBounds j true) a' w' hfree' (ready_mono hr (Ne.symm hji)) hcj h3.1 (h3.2.1 hun2) ?_⟩) h2
      rw [Array.setIfInBounds_comm _ _ hji]
      exact h3.2.2

/-- may they be taken so? -/
def takesKB (md : Region.Mode) (ops : Array Oper) (k : Nat) : List Nat → Array Bool → Bool
  | [], _ => true
  | i :: is, listed => Region.free md ops listed i && (Region.ready md ops listed).contains i && closedB md ops listed && waits md ops i ops.size k && !(k == i) && takesKB md ops k is (listed.setIfInBounds i true)

theorem wpAnyK_takes {k : Nat} (hQ : ∀ c a d v w, Q (.panic c) (a.put d v) w → Q (.panic c) a w) (hs : Region.noSelect ops = true) {w : World} (hS : S w) {fuel : Nat} :
    ∀ (is : List Nat) (listed : Array Bool) (a : Act), takesKB md ops k is listed = true →
      takes P ops S (fun a' => wpAnyK P md ops Q S k fuel (markAll listed is) a' w) is a → wpAnyK P md ops Q S k (fuel + is.length) listed a w
  | [], _, _, _, h => h
  | i :: is, listed, a, hB, ⟨o, v, ho, hy, h⟩ => by
    simp only [takesKB, Bool.and_eq_true, Bool.not_eq_true', beq_eq_false_iff_ne] at hB
    rw [List.length_cons, ← Nat.add_assoc]
    exact wpAnyK_first ho (Region.noSelect_spec hs) (fun c a w => hQ c a o.dst v w) hB.1.1.2 hB.1.2 (fuel + is.length) listed a w (Region.free_spec ho hB.1.1.1.1.1) (by simpa using hB.1.1.1.1.2) (closedB_spec hB.1.1.1.2) hy hS (wpAnyK_takes hQ hs hS is _ _ hB.2 h)

theorem wp_region_takesK {id : Nat} {l : List Oper} {a : Act} {w : World} (S : World → Prop) (k : Nat) (is : List Nat) (fuel : Nat) (hQ : ∀ c a d v w, Q (.panic c) (a.put d v) w → Q (.panic c) a w)
    (hm : P.follows .mixedOrders = true) (hn : (Region.noSelect l.toArray && decide (l.length = fuel + is.length) && takesKB .any l.toArray k is (Array.replicate l.toArray.size false)) = true) (hS : S w.drew)
    (h : takes P l.toArray S (fun a' => wpAnyK P .any l.toArray Q S k fuel (markAll (Array.replicate l.toArray.size false) is) a' w.drew) is a) : (Code.region id l.toArray true).wp P Q a w := by
  simp only [Bool.and_eq_true, decide_eq_true_eq] at hn
  refine wp_region_any hm (wpAny_of_K (S := S) (k := k) _ _ _ _ ?_)
  have h1 := wpAnyK_takes (Q := Q) (md := .any) (ops := l.toArray) hQ hn.1.1 hS is _ a hn.2 h
  have h2 : l.toArray.size = fuel + is.length := by simpa using hn.1.2
  rw [h2]
  rw [h2] at h1
  exact h1

theorem wpAnyK_more {w : World} {k : Nat} (is : List Nat) (fuel : Nat) {f : Nat} {listed : Array Bool} {a : Act} (hf : f = fuel + is.length) (hQ : ∀ c a d v w, Q (.panic c) (a.put d v) w → Q (.panic c) a w)
    (hs : Region.noSelect ops = true) (hB : takesKB md ops k is listed = true) (hS : S w)
    (h : takes P ops S (fun a' => wpAnyK P md ops Q S k fuel (markAll listed is) a' w) is a) : wpAnyK P md ops Q S k f listed a w := by
  subst hf
  exact wpAnyK_takes hQ hs hS is listed a hB h

/-- the only one that may come up now -/
theorem wpAnyK_only {l : List Oper} {w : World} {k : Nat} (i : Nat) {fuel : Nat} {listed : Array Bool} {a : Act} {o : Oper} (hr : Region.ready md l.toArray listed = [i]) (ho : nthOp l i = some o)
    (h : ∀ K' : Act → World → Prop, Shut (∀ a w, S w → (S w → wpAnyK P md l.toArray Q S k fuel (listed.setIfInBounds i true) a w) → K' a w) → if Region.wanted o (yielded l.toArray a.tmps) = true then Oper.wp P o a w K' Q else K' (a.put o.dst undef) w) :
    wpAnyK P md l.toArray Q S k (fuel + 1) listed a w := by
  refine ⟨fun h0 => (by rw [hr] at h0; cases h0), fun j hj => ?_⟩
  rw [hr, List.mem_singleton] at hj
  subst hj
  exact wpOp_step ((nthOp_eq l _).symm.trans ho) fun K' hK => h K' fun a w h1 h2 => hK a w ⟨fun _ => h1, h2 h1⟩

/-- the only one that may come up now, k itself or behind it -/
theorem wpAnyK_last {l : List Oper} {w : World} {k : Nat} (i : Nat) {fuel : Nat} {listed : Array Bool} {a : Act} {o : Oper} (hr : Region.ready md l.toArray listed = [i]) (hk : (listed.setIfInBounds i true).getD k false = true) (ho : nthOp l i = some o)
    (h : ∀ K' : Act → World → Prop, Shut (∀ a w, wpAnyK P md l.toArray Q S k fuel (listed.setIfInBounds i true) a w → K' a w) → if Region.wanted o (yielded l.toArray a.tmps) = true then Oper.wp P o a w K' Q else K' (a.put o.dst undef) w) :
    wpAnyK P md l.toArray Q S k (fuel + 1) listed a w := by
  refine ⟨fun h0 => (by rw [hr] at h0; cases h0), fun j hj => ?_⟩
  rw [hr, List.mem_singleton] at hj
  subst hj
  exact wpOp_step ((nthOp_eq l _).symm.trans ho) fun K' hK => h K' fun a w h2 => hK a w ⟨fun h1 => (by rw [hk] at h1; cases h1), h2⟩

theorem wpAnyK_done {k : Nat} {listed : Array Bool} {a : Act} {w : World} (hr : Region.ready md ops listed = []) (h : Q .normal a w) :
    ∀ fuel, wpAnyK P md ops Q S k fuel listed a w
  | 0 => ⟨hr, h⟩
  | _ + 1 => ⟨fun _ => h, by rw [hr]; simp⟩
end
end Go.Proofs.YtdelpialeajajaaGreatDoor

/- The document's reader: say. -/
namespace Go.Proofs.YtdelpialeajajaaGreatDoor
open Go Go.RowKit
set_option maxRecDepth 10000

/-- a text more -/
def sayS (x : Sc) (t : Wd) : Sc :=
  if t = [] then x else
  match x.out.getLast? with
  | none => { x with out := x.out ++ [⟨116, t, [], [], [], 0⟩] }
  | some m => if m.kind = 116 then { x with out := x.out.dropLast ++ [{ m with text := m.text ++ t }] } else { x with out := x.out ++ [⟨116, t, [], [], [], 0⟩] }

theorem own_free {w : World} {base : Nat} {e : TypeId} {size n g cap : Nat} {xs : List Value} (h : w.ownsRow base e size (.slice (some ⟨g, 0, none⟩) n cap) n xs) (j : Nat) : w.frozen? ⟨g, j, none⟩ = false := by
  rcases h.2 with ⟨h2, _⟩ | ⟨g', cap', cur, hv, hg, hh, k1, k2, k3, k4⟩
  · cases h2
  · cases hv
    simp [World.frozen?, hh]

set_option maxHeartbeats 4000000 in
theorem scan_say (p : Nat) (s : ByteArray) (x : Sc) (t : Wd) (w : World) (h : ScanAt p s x w) (hl : x.out.length + 1 ≤ 1000000) (hk : ∀ m ∈ x.out, m.kind < 256) (ht : ∀ m ∈ x.out, m.text.length + t.length ≤ 1000000000) :
    Calls Tryz.prog 73 #[.pointer (some ⟨p, 0, none⟩), strv t] w (ScanQ p s (.tuple #[]) (sayS x t) w) := by
  have HH := Lib.hid h
  obtain ⟨v2, v3, h2, h2', h3, h3', hd⟩ := h.rows
  have z2 := h.z 2
  obtain ⟨n, hn⟩ : ∃ n, x.out.length = n := ⟨_, rfl⟩
  have H3 := Lib.hid h3'
  have HD := Lib.hid hd
  rw [hn] at h2' hl
  have H2 := Lib.hid h2'
  clear h h3' hd
  by_cases ht0 : t = []
  · have HY := Lib.hid (show sayS x t = x from if_pos ht0)
    subst ht0
    obtain ⟨oa, oc, rfl⟩ := own_slice h2'
    clear h2' hn ht hk
    go_enter Tryz.func73, Tryz.ntmps73
    go_wp2
    refine bodyPost_ret (v := .tuple #[]) ?_ rfl ?_
    · simp [results, Tryz.results73, go_sem]
    rw [HY.out]
    exact ⟨rfl, HH.out, Below.refl _ _⟩
  have g0 : List.isEmpty t = false := by cases t with | nil => exact absurd rfl ht0 | cons _ _ => rfl
  rcases List.eq_nil_or_concat x.out with hx0 | ⟨l, m, hx⟩
  · have HY := Lib.hid (show sayS x t = { x with out := x.out ++ [⟨116, t, [], [], [], 0⟩] } by unfold sayS; rw [if_neg ht0, hx0]; rfl)
    have hn0 : n = 0 := by rw [← hn, hx0]; rfl
    obtain ⟨oa, oc, rfl⟩ := own_slice h2'
    have k0 : decide (0 < n) = false := by simp; omega
    have k1 : decide ((0 : Int) < (n : Int)) = false := by simp; omega
    clear h2' hx0 hn0 ht hk ht0
    go_enter Tryz.func73, Tryz.ntmps73
    go_wp2_with (at_builtin; refine list_gen ?_)
    intro W1 hW1
    have hbA := (show Below w.heap.size w W1 by rw [hW1]; exact (Below.refl _ _).alloc (Nat.le_refl _) _)
    have hC := fun i => cell_made w #[.int .u8 116, strv t, .string ⟨#[]⟩, .string ⟨#[]⟩, .string ⟨#[]⟩, .int .i64 0] 61 (0, 0) i
    rw [← hW1] at hC
    have hsA := hbA.size
    have hlt := HH.out.lt
    have s1 : W1.heap.size = w.heap.size + 1 := by rw [hW1]; simp
    have HO := Lib.hid (own_below H2.out hbA)
    have HBA := Lib.hid hbA
    clear hW1
    refine app_at elem_marks rfl _ _ rfl (p + 1) _ n (marksC x.out) rfl HO.out ⟨w.heap.size, 0, none⟩ 1 1 (markV ⟨116, t, [], [], [], 0⟩) rfl rfl ?B1 ?B2 (by omega) (by omega) ?B3
    case B1 =>
      intro j u hu
      rw [addr_add0]
      have := hC j
      rw [this]
      simpa [markV] using hu
    case B2 =>
      intro u hu
      simp [markV] at hu
      rcases hu with rfl | rfl | rfl | rfl <;> rfl
    intro v' w' ho hg hw
    have HN := Lib.hid hn
    have hgr := HH.out.grow2 (m := ⟨116, t, [], [], [], 0⟩) (by rw [HN.out]; exact H2.out) h2 h3 H3.out HD.out HBA.out (by rw [HN.out]; exact ho) hg hw (by rw [HN.out]; omega)
    have C := HH.out.cells5 HBA.out hg (fun g e => (H2.out.lt g e).1)
    have e2 := hg.cell ((HBA.out.cell (p := ⟨p, 2, none⟩) HH.out.lt).trans h2) (fun e => Nat.lt_irrefl _ ((H2.out.lt p e.symm).1))
    have z2 := C.z 2
    obtain ⟨na, nc, rfl⟩ := own_slice ho
    have HGR := Lib.hid hgr
    clear hgr C ho hg hw hC
    go_wp2
    refine bodyPost_ret (v := .tuple #[]) ?_ rfl ?_
    · simp [results, Tryz.results73, go_sem]
    rw [HY.out]
    exact ⟨rfl, HGR.out.1, HGR.out.2⟩
  · have hx : x.out = l ++ [m] := by simpa using hx
    have hlen : n = l.length + 1 := by rw [← hn, hx]; simp
    obtain ⟨q, hq⟩ : ∃ q, l.length = q := ⟨_, rfl⟩
    rw [hq] at hlen
    obtain ⟨g, oc, rfl, hpg, hgw, hcell⟩ := own_some h2' (by omega)
    have hat : ∀ j, j < 6 → w.cell? ⟨g, q * 6 + j, none⟩ = (markV m)[j]? := fun j hj => by rw [hcell (q * 6 + j) (by omega), hx, ← hq, marks_at l m j hj]
    have a0 := hat 0 (by omega)
    have a1 := hat 1 (by omega)
    have b0 : w.cell? ⟨g, q * 6, none⟩ = some (.int .u8 (m.kind : Nat)) := a0
    have b1 : w.cell? ⟨g, q * 6 + 1, none⟩ = some (strv m.text) := a1
    have k0 : decide (0 < n) = true := by simp; omega
    have k1 : decide ((0 : Int) < (n : Int)) = true := by simp; omega
    have q1 : (n : Int) - 1 = (q : Int) := by omega
    have q2 : IntKind.i64.wrap (q : Int) = (q : Int) := by simp [IntKind.wrap, IntKind.signed, IntKind.bits]; omega
    have q3 : q < n := by omega
    have q4 : (q : Int) < (n : Int) := by omega
    have HK := Lib.hid (hk m (by rw [hx]; simp))
    have hT := ht m (by rw [hx]; simp)
    have w1 : (9223372036854775807 < m.text.length + t.length) = False := by simp; omega
    by_cases hm : m.kind = 116
    · have j1 : ((m.kind : Int) == 116) = true := by rw [hm]; rfl
      have HY := Lib.hid (show sayS x t = { x with out := l ++ [{ m with text := m.text ++ t }] } by unfold sayS; rw [if_neg ht0, hx]; simp [hm])
      have HX := Lib.hid hx
      have HL := Lib.hid hlen
      have HQ := Lib.hid hq
      clear h2' hx hlen hcell hat a0 a1 hm ht hk ht0 hq
      go_enter Tryz.func73, Tryz.ntmps73
      have zf : w.drew.frozen? ⟨g, q * 6 + 1, none⟩ = false := own_free H2.out _
      have hS0 : w.drew.cell? ⟨p, 2, none⟩ = some (.slice (some ⟨g, 0, none⟩) (n : Nat) oc) ∧ w.drew.cell? ⟨g, q * 6 + 1, none⟩ = some (strv m.text) := ⟨h2, b1⟩
      go_wp2_with fail
      refine wp_region_takesK (fun W' : World => W'.cell? ⟨p, 2, none⟩ = some (.slice (some ⟨g, 0, none⟩) (n : Nat) oc) ∧ W'.cell? ⟨g, q * 6 + 1, none⟩ = some (strv m.text)) 19 [0, 1, 2, 3, 4, 5, 6, 7, 8, 9, 10, 11, 12, 13, 14, 15, 16, 17, 18] 1 (by intro _ _ d _ _ h; cases d <;> exact h) (by kernel_rfl) (by kernel_rfl) hS0 ?_
      (iterate 19 (first | (refine takes_yes (v := ?_) rfl (by rfl) ?_ ?_; rotate_left; (focus ((intro w' hS'; (try dsimp only at hS'); go_simp; try (with_reducible rfl)); done)); (try simp only [Act.put, List.setIfInBounds_toArray, List.set_cons_zero, List.set_cons_succ])) | (refine takes_no rfl (by rfl) ?_; (try simp only [Act.put, List.setIfInBounds_toArray, List.set_cons_zero, List.set_cons_succ]))))
      refine takes_nil ?_
      refine wpAnyK_last 19 (by kernel_rfl) (by kernel_rfl) rfl (fun K hK => ?_)
      go_simp
      refine hK.out _ _ ?_
      clear hK K
      refine wpAnyK_done (by kernel_rfl) ?_ _
      go_wp2
      refine bodyPost_ret (v := .tuple #[]) ?_ rfl ?_
      · simp [results, Tryz.results73, go_sem]
      rw [HY.out]
      obtain ⟨hs1, hb1⟩ := HH.out.text HX.out (by rw [HL.out, HQ.out]) (by rw [hn]; exact H2.out) h2 h3 H3.out HD.out (m.text ++ t)
      rw [HQ.out] at hs1 hb1
      rw [show (⟨m.text.toArray⟩ : ByteArray) ++ ⟨t.toArray⟩ = ⟨(m.text ++ t).toArray⟩ by apply ByteArray.ext; simp]
      exact ⟨rfl, hs1.below (Below.refl _ _).drew, hb1.drew⟩
    · have j1 : ((m.kind : Int) == 116) = false := by simp; omega
      have HY := Lib.hid (show sayS x t = { x with out := x.out ++ [⟨116, t, [], [], [], 0⟩] } by unfold sayS; rw [if_neg ht0]; simp [hx, hm])
      clear h2' hx hlen hcell hat a0 a1 hm ht hk ht0 hq
      go_enter Tryz.func73, Tryz.ntmps73
      go_wp2_with (at_builtin; refine list_gen ?_)
      intro W1 hW1
      have hbA := (show Below w.heap.size w W1 by rw [hW1]; exact (Below.refl _ _).alloc (Nat.le_refl _) _)
      have hC := fun i => cell_made w #[.int .u8 116, strv t, .string ⟨#[]⟩, .string ⟨#[]⟩, .string ⟨#[]⟩, .int .i64 0] 61 (0, 0) i
      rw [← hW1] at hC
      have hsA := hbA.size
      have hlt := HH.out.lt
      have s1 : W1.heap.size = w.heap.size + 1 := by rw [hW1]; simp
      have HO := Lib.hid (own_below H2.out hbA)
      have HBA := Lib.hid hbA
      clear hW1
      refine app_at elem_marks rfl _ _ rfl (p + 1) _ n (marksC x.out) rfl HO.out ⟨w.heap.size, 0, none⟩ 1 1 (markV ⟨116, t, [], [], [], 0⟩) rfl rfl ?A1 ?A2 (by omega) (by omega) ?A3
      case A1 =>
        intro j u hu
        rw [addr_add0]
        have := hC j
        rw [this]
        simpa [markV] using hu
      case A2 =>
        intro u hu
        simp [markV] at hu
        rcases hu with rfl | rfl | rfl | rfl <;> rfl
      intro v' w' ho hg hw
      have HN := Lib.hid hn
      have hgr := HH.out.grow2 (m := ⟨116, t, [], [], [], 0⟩) (by rw [HN.out]; exact H2.out) h2 h3 H3.out HD.out HBA.out (by rw [HN.out]; exact ho) hg hw (by rw [HN.out]; omega)
      have C := HH.out.cells5 HBA.out hg (fun g e => (H2.out.lt g e).1)
      have e2 := hg.cell ((HBA.out.cell (p := ⟨p, 2, none⟩) HH.out.lt).trans h2) (fun e => Nat.lt_irrefl _ ((H2.out.lt p e.symm).1))
      have z2 := C.z 2
      obtain ⟨na, nc, rfl⟩ := own_slice ho
      have HGR := Lib.hid hgr
      clear hgr C ho hg hw hC
      go_wp2
      refine bodyPost_ret (v := .tuple #[]) ?_ rfl ?_
      · simp [results, Tryz.results73, go_sem]
      rw [HY.out]
      exact ⟨rfl, HGR.out.1, HGR.out.2⟩
end Go.Proofs.YtdelpialeajajaaGreatDoor

/- The document's reader beside a mark in the making. -/
namespace Go.Proofs.YtdelpialeajajaaGreatDoor
open Go Go.RowKit
set_option maxRecDepth 10000

/-- a mark in the making: a block of its own -/
def MkB (b : Nat) (m : Mk) (w : World) : Prop := w.heap[b]? = some (.cells (markV m).toArray 61 (0, 0))
theorem MkB.lt {b : Nat} {m : Mk} {w : World} (h : MkB b m w) : b < w.heap.size := lt_of_block h
theorem MkB.cell {b : Nat} {m : Mk} {w : World} (h : MkB b m w) (j : Nat) : w.cell? ⟨b, j, none⟩ = (markV m)[j]? := by
  unfold MkB at h
  simp [World.cell?, h]
theorem MkB.free {b : Nat} {m : Mk} {w : World} (h : MkB b m w) (j : Nat) : w.frozen? ⟨b, j, none⟩ = false := by
  unfold MkB at h
  simp [World.frozen?, h]
theorem MkB.but {p b : Nat} {m : Mk} {w w' : World} (h : MkB b m w) (hf : But p w w') (hne : b ≠ p) : MkB b m w' := (hf.block b h.lt hne).trans h
theorem MkB.below {b : Nat} {m : Mk} {w w' : World} (h : MkB b m w) (hb : Below w.heap.size w w') : MkB b m w' := (hb.block b h.lt).trans h
theorem MkB.set {b : Nat} {m m' : Mk} {w : World} (h : MkB b m w) (j : Nat) (u : Value) (hm : (markV m).set j u = markV m') : MkB b m' (w.setCell ⟨b, j, none⟩ u) := by
  have hlt := h.lt
  unfold MkB at *
  have h' : w.heap[b] = .cells (markV m).toArray 61 (0, 0) := by simpa [Array.getElem?_eq_getElem hlt] using h
  show (w.heap.modify b _)[b]? = _
  rw [Array.getElem?_eq_getElem (by simpa using hlt), Array.getElem_modify_self, h', ← hm]
  simp

structure BrI (p : Nat) (s : ByteArray) (x : Sc) (b : Nat) (m : Mk) (w : World) : Prop where
  at_ : ScanAt p s x w
  mkb : MkB b m w
  lt : p < b
  away : ∀ v, w.cell? ⟨p, 2, none⟩ = some v → v.ownBlock ≠ some b

theorem BrI.step {p : Nat} {s : ByteArray} {x y : Sc} {b : Nat} {m : Mk} {w w' : World} (h : BrI p s x b m w) (hs : ScanAt p s y w') (hf : Fr p w w') : BrI p s y b m w' :=
  ⟨hs, h.mkb.but hf.but (by have := h.lt; omega), h.lt, fun v hv => h.away v (hf.c2 ▸ hv)⟩
theorem BrI.drew {p : Nat} {s : ByteArray} {x : Sc} {b : Nat} {m : Mk} {w : World} (h : BrI p s x b m w) : BrI p s x b m w.drew :=
  h.step (h.at_.below (Below.refl _ _).drew) (Fr.refl _ _).drew
theorem BrI.put1 {p : Nat} {s : ByteArray} {x : Sc} {b : Nat} {m : Mk} {w : World} (h : BrI p s x b m w) (i : Nat) (hi : i ≤ s.size) : BrI p s { x with i := i } b m (w.setCell ⟨p, 1, none⟩ (.int .i64 (i : Nat))) :=
  h.step (h.at_.put1 i hi) (fr_put (Fr.refl _ _))
theorem BrI.start {p : Nat} {s : ByteArray} {x : Sc} {m : Mk} {w : World} (h : ScanAt p s x w) : BrI p s x w.heap.size m (w.alloc (.cells (markV m).toArray 61)) := by
  have hb : Below w.heap.size w (w.alloc (.cells (markV m).toArray 61)) := (Below.refl _ _).alloc (Nat.le_refl _) _
  refine ⟨h.below hb, heap_alloc_new w _, h.lt, fun v hv e => ?_⟩
  obtain ⟨v2, v3, h2, h2', -⟩ := h.rows
  have h3 := (hb.cell (p := ⟨p, 2, none⟩) h.lt).trans h2
  rw [h3] at hv
  cases hv
  exact Nat.lt_irrefl _ (h2'.lt _ e).2
/-- a cell of the mark in the making is written -/
theorem BrI.set {p : Nat} {s : ByteArray} {x : Sc} {b : Nat} {m m' : Mk} {w : World} (h : BrI p s x b m w) (j : Nat) (u : Value) (hm : (markV m).set j u = markV m') : BrI p s x b m' (w.setCell ⟨b, j, none⟩ u) := by
  obtain ⟨⟨h0, h1, ⟨v2, v3, h2, h2', h3, h3', hd⟩, h4, h5, h6, h7, h8, h9, h10⟩, hk, hl, ha⟩ := h
  have hne : ∀ i : Nat, (⟨b, j, none⟩ : Addr) ≠ ⟨p, i, none⟩ := fun i e => by cases e; omega
  have hb3 : v3.ownBlock ≠ some b := by
    intro e
    rcases h3'.2 with ⟨hv, _⟩ | ⟨g, cap, cur, hv, hg, hh, rest⟩
    · rw [hv] at e; cases e
    · rw [hv] at e
      cases e
      unfold MkB at hk
      rw [hk] at hh
      have := (Option.some.inj hh)
      cases this
  refine ⟨⟨by rw [cellSet, if_neg (hne _)]; exact h0, by rw [cellSet, if_neg (hne _)]; exact h1, ⟨v2, v3, by rw [cellSet, if_neg (hne _)]; exact h2, ownsRow_setCell_other h2' (ha v2 h2) _, by rw [cellSet, if_neg (hne _)]; exact h3, ownsRow_setCell_other h3' hb3 _, hd⟩,
    by rw [cellSet, if_neg (hne _)]; exact h4, by rw [cellSet, if_neg (hne _)]; exact h5, fun i => by rw [World.frozen?_setCell]; exact h6 i, h7, h8, h9, h10⟩, hk.set j u hm, hl, fun v hv => ?_⟩
  rw [cellSet, if_neg (hne _)] at hv
  exact ha v hv
end Go.Proofs.YtdelpialeajajaaGreatDoor
