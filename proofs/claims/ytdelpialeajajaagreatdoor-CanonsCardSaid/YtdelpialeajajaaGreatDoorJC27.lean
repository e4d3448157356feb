import Derived.Test.YtdelpialeajajaaGreatDoorJC26
import Derived.Shelf.RegionOpenPlain
import Derived.Lib.Builder
import Derived.Lib.AppendStr
import Derived.Lib.UnsafeStr
import Derived.Lib.OthersKept
import Derived.Deep.DeepCutAuto
import Derived.Deep.CutBlock

/- syntax.writer: a Builder within a struct: its check for copies, WriteString, String. -/
namespace Go.Proofs.YtdelpialeajajaaGreatDoor
open Go Go.RowKit
set_option maxRecDepth 10000

theorem bld_info : (Tryz.prog.info? 139).map (fun j => j.size) = some 2 := by kernel_rfl
theorem byte_info : ∃ i : TypeInfo, Tryz.prog.info? 5 = some i ∧ i.zero = some (.int .u8 0) ∧ i.size = 1 ∧ i.bytes = 1 := info_parts (by kernel_rfl)
theorem byte_cells : Tryz.prog.cellsOf 5 = 1 := by kernel_rfl

/-- the writer in block b, one of the call's own from B on, holds these bytes -/
def WrAt (B b : Nat) (l : Wd) (w : World) : Prop :=
  ∃ p v, (p = .pointer none ∨ p = .pointer (some ⟨b, 0, none⟩)) ∧ B ≤ b ∧ w.heap[b]? = some (.cells #[p, v] 141 (0, 0)) ∧ w.ownsRow B 5 1 v l.length (Lib.byteCells l) ∧ v.ownBlock ≠ some b ∧ (l = [] → v = .slice none 0 0)
/-- what a writer's call leaves: all below B; all but the writer's block and rows of bytes -/
structure WF (B b : Nat) (w w' : World) : Prop where
  below : Below B w w'
  kept : Lib.OthersKept 5 (some b) w w'
theorem WF.refl (B b : Nat) (w : World) : WF B b w w := ⟨Below.refl _ _, Lib.OthersKept.refl _ _ _⟩
theorem WF.trans {B b : Nat} {w w1 w2 : World} (h : WF B b w w1) (k : WF B b w1 w2) : WF B b w w2 := ⟨h.below.trans k.below, h.kept.trans k.kept⟩
theorem WF.later {B b : Nat} {w w' : World} (hB : B ≤ w.heap.size) (hb : Below w.heap.size w w') : WF B b w w' :=
  ⟨hb.mono hB, fun k o hk _ _ => by
    have hlt : k < w.heap.size := (Array.getElem?_eq_some_iff.1 hk).1
    rw [hb.block k hlt]
    exact hk⟩
theorem WrAt.lt {B b : Nat} {l : Wd} {w : World} (h : WrAt B b l w) : b < w.heap.size ∧ B ≤ b := by
  obtain ⟨p, v, _, hB, hb, _⟩ := h
  exact ⟨(Array.getElem?_eq_some_iff.1 hb).1, hB⟩
theorem WrAt.later {B b : Nat} {l : Wd} {w w' : World} (h : WrAt B b l w) (hb : Below w.heap.size w w') : WrAt B b l w' := by
  have hlt := h.lt
  obtain ⟨p, v, h1, h2, h3, h4, h5, h6⟩ := h
  exact ⟨p, v, h1, h2, by rw [hb.block b hlt.1]; exact h3, own_below h4 hb, h5, h6⟩
/-- a new writer -/
theorem wr_new (w : World) (B : Nat) (hB : B ≤ w.heap.size) : WrAt B w.heap.size [] (w.alloc (.cells #[.pointer none, .slice none 0 0] 141)) :=
  ⟨.pointer none, .slice none 0 0, .inl rfl, hB, heap_alloc_new w _, World.ownsRow_nil _ _ _ _, by simp [Value.ownBlock], fun _ => rfl⟩

/-- behind the check for copies: the writer holds its own address -/
def WrQ (B b : Nat) (l : Wd) (w : World) : Prop :=
  ∃ v, B ≤ b ∧ w.heap[b]? = some (.cells #[.pointer (some ⟨b, 0, none⟩), v] 141 (0, 0)) ∧ w.ownsRow B 5 1 v l.length (Lib.byteCells l) ∧ v.ownBlock ≠ some b ∧ (l = [] → v = .slice none 0 0)

set_option maxHeartbeats 2000000 in
theorem wr_check (B b : Nat) (l : Wd) (w : World) (h : WrAt B b l w) :
    Calls Tryz.prog 165 #[.pointer (some ⟨b, 0, none⟩)] w fun e w' => e = .returned (.tuple #[]) ∧ WrQ B b l w' ∧ WF B b w w' := by
  obtain ⟨j, hj, hjs⟩ := Option.map_eq_some_iff.1 bld_info
  have hlt := h.lt.1
  obtain ⟨p, v, h1, h2, h3, h4, h5, h6⟩ := h
  have h0 : w.cell? ⟨b, 0, none⟩ = some p := by rw [Lib.cell_of_heap h3]; rfl
  have hfz : w.frozen? ⟨b, 0, none⟩ = false := Lib.frozen_of_heap h3 0
  have hsh : w.shape? b = some (141, 2) := by simp [World.shape?, h3]
  have hset : (w.setCell ⟨b, 0, none⟩ (.pointer (some ⟨b, 0, none⟩))).heap[b]? = some (.cells #[.pointer (some ⟨b, 0, none⟩), v] 141 (0, 0)) := by
    simp [World.setCell, Array.getElem?_modify, h3]
  have hown : (w.setCell ⟨b, 0, none⟩ (.pointer (some ⟨b, 0, none⟩))).ownsRow B 5 1 v l.length (Lib.byteCells l) :=
    h4.kept (row := some b) ⟨rfl, rfl, rfl, by simp [World.setCell], fun k _ hk => Below.heap_setCell _ _ _ _ (fun e => hk (by simp [e]))⟩ (.inr h5)
  have hwf : WF B b w (w.setCell ⟨b, 0, none⟩ (.pointer (some ⟨b, 0, none⟩))) := ⟨(Below.refl B w).setCell (p := ⟨b, 0, none⟩) h2 _, (Lib.OthersKept.refl _ _ _).setCell ⟨b, 0, none⟩ rfl _⟩
  have HS := Lib.hid (⟨v, h2, hset, hown, h5, h6⟩ : WrQ B b l (w.setCell ⟨b, 0, none⟩ (.pointer (some ⟨b, 0, none⟩))))
  have HW := Lib.hid hwf
  rcases h1 with rfl | rfl
  · clear h3 h4 h5 h6 hset hown hwf
    go_enter Tryz.func165, Tryz.ntmps165
    go_wp2
    rw [Lib.run_to_unsafe w ⟨b, 0, none⟩ Tryz.underlying136 Tryz.underlying122 hj (by rw [hjs]; decide) hsh (Nat.zero_lt_succ 1)]
    simp only [Result.andThen]
    rw [Oper.upon_value]
    go_wp2
    rw [run_callFunc_extern Tryz.func201 (by kernel_rfl) (by kernel_rfl) (by kernel_rfl) (e := Extern.AbiNoEscape.same) (by kernel_rfl)]
    rw [Lib.run_noEscape]
    simp only [Result.andThen]
    rw [Oper.upon_value]
    go_wp2
    rw [Lib.run_from_unsafe w ⟨b, 0, none⟩ Tryz.underlying122 Tryz.underlying136 hj hsh (by kernel_rfl)]
    simp only [Result.andThen]
    rw [Oper.upon_value]
    go_wp2
    go_end0
    exact ⟨rfl, HS.out, HW.out⟩
  · have HQ := Lib.hid (⟨v, h2, h3, h4, h5, h6⟩ : WrQ B b l w)
    clear h3 h4 h5 h6 hset hown hwf HS HW
    go_enter Tryz.func165, Tryz.ntmps165
    go_wp2
    rw [Lib.run_neq_ptr_same w _ Tryz.underlying136 hj]
    go_wp2
    go_end0
    exact ⟨rfl, HQ.out, WF.refl _ _ _⟩

theorem str_cells (t : Wd) : Lib.strCells ⟨t.toArray⟩ = Lib.byteCells t := rfl
theorem byte_app (a b : Wd) : Lib.byteCells a ++ Lib.byteCells b = Lib.byteCells (a ++ b) := by simp [Lib.byteCells]

set_option maxHeartbeats 4000000 in
theorem wr_string (B b : Nat) (l t : Wd) (w : World) (h : WrAt B b l w) (hlen : l.length + t.length ≤ 1000000000) :
    Calls Tryz.prog 120 #[.pointer (some ⟨b, 0, none⟩), strv t] w fun e w' => (∃ v, e = .returned v) ∧ WrAt B b (l ++ t) w' ∧ WF B b w w' := by
  obtain ⟨i0, hi, hz0, hz1, hz2⟩ := byte_info
  have HBw := Lib.hid (Nat.le_trans h.lt.2 (Nat.le_of_lt h.lt.1))
  have HCK := Lib.hid (wr_check B b l w h)
  have hts : (⟨t.toArray⟩ : ByteArray).size = t.length := size_mk _
  clear h
  go_enter Tryz.func120, Tryz.ntmps120
  go_wp2_with fail
  refine HCK.out.mono ?_
  rintro e w1 ⟨rfl, hq, hwf⟩
  obtain ⟨v, hB, hbk, hown, hne, hnil⟩ := hq
  have c0 : w1.cell? ⟨b, 0, none⟩ = some (.pointer (some ⟨b, 0, none⟩)) := by rw [Lib.cell_of_heap hbk]; rfl
  have c1 : w1.cell? ⟨b, 1, none⟩ = some v := by rw [Lib.cell_of_heap hbk]; rfl
  have hlt : b < w1.heap.size := (Array.getElem?_eq_some_iff.1 hbk).1
  have hB1 : B ≤ w1.heap.size := Nat.le_trans HBw.out hwf.below.size
  have HWF := Lib.hid hwf
  have HOWN := Lib.hid hown
  have HNE := Lib.hid hne
  have HNIL := Lib.hid hnil
  have HBK := Lib.hid hbk
  have HV := Lib.hid (own_slice hown)
  clear hwf hown hne hnil hbk
  go_wp2_with (at_builtin; refine Lib.wpList_append_own_string _ rfl _ _ 137 9 rfl B 5 i0 Tryz.underlying137 Tryz.underlying9 hi hz0 hz1 hz2 v l.length (Lib.byteCells l) rfl HOWN.out ⟨t.toArray⟩ rfl (by rw [hts]; unfold maxLen; omega) (by rw [hts]; omega) hB1 ?_)
  intro v' w2 hown' hgrow hz
  have hb2 : w2.heap[b]? = some (.cells #[.pointer (some ⟨b, 0, none⟩), v] 141 (0, 0)) := by
    rw [hgrow.block b hlt (fun e => HNE.out e.symm)]
    exact HBK.out
  have d0 : w2.cell? ⟨b, 0, none⟩ = some (.pointer (some ⟨b, 0, none⟩)) := by rw [Lib.cell_of_heap hb2]; rfl
  have d1 : w2.cell? ⟨b, 1, none⟩ = some v := by rw [Lib.cell_of_heap hb2]; rfl
  have f1 : w2.frozen? ⟨b, 1, none⟩ = false := Lib.frozen_of_heap hb2 1
  rw [str_cells, byte_app] at hown'
  have hlt2 : b < w2.heap.size := (Array.getElem?_eq_some_iff.1 hb2).1
  have hown' : w2.ownsRow B 5 1 v' (l.length + t.length) (Lib.byteCells (l ++ t)) := hown'
  have hne' := Lib.ownBlock_ne hown' hb2 (by decide)
  have hput : (w2.setCell ⟨b, 1, none⟩ v').heap[b]? = some (.cells #[.pointer (some ⟨b, 0, none⟩), v'] 141 (0, 0)) := by
    simp [World.setCell, Array.getElem?_modify, hb2]
  have hown2 : (w2.setCell ⟨b, 1, none⟩ v').ownsRow B 5 1 v' (l ++ t).length (Lib.byteCells (l ++ t)) := by
    rw [List.length_append]
    exact hown'.kept (row := some b) ⟨rfl, rfl, rfl, by simp [World.setCell], fun k _ hk => Below.heap_setCell _ _ _ _ (fun e => hk (by simp [e]))⟩ (.inr hne')
  have hnil2 : l ++ t = [] → v' = .slice none 0 0 := fun e => by
    obtain ⟨e1, e2⟩ := List.append_eq_nil_iff.1 e
    exact hz.2 ⟨HNIL.out e1, by subst e2; rfl⟩
  have hwf2 : WF B b w (w2.setCell ⟨b, 1, none⟩ v') :=
    ⟨(HWF.out.below.grown hgrow hB1 (fun k hk => (HOWN.out.lt k hk).1)).setCell (p := ⟨b, 1, none⟩) hB _,
      (HWF.out.kept.grown hgrow (Lib.ownsRowF_kind (World.ownsRowF_of HOWN.out))).setCell ⟨b, 1, none⟩ rfl _⟩
  have HW := Lib.hid (⟨_, v', .inr rfl, hB, hput, hown2, hne', hnil2⟩ : WrAt B b (l ++ t) (w2.setCell ⟨b, 1, none⟩ v'))
  have HF := Lib.hid hwf2
  obtain ⟨ao, cap, rfl⟩ := own_slice hown'
  clear hown' hgrow hz hb2 hput hown2 hnil2 hwf2 hne'
  go_wp2
  go_ret2
  exact ⟨⟨_, rfl⟩, HW.out, HF.out⟩

set_option maxHeartbeats 4000000 in
theorem wr_get (B b : Nat) (l : Wd) (w : World) (h : WrAt B b l w) (hl : l.length ≤ 1000000000) :
    Calls Tryz.prog 60 #[.pointer (some ⟨b, 0, none⟩)] w fun e w' => e = .returned (strv l) ∧ Below B w w' := by
  obtain ⟨p, v, h1, hB, hbk, hown, hne, hnil⟩ := h
  by_cases h0 : l = []
  · have hv := hnil h0
    subst hv h0
    have c1 : w.drew.cell? ⟨b, 1, none⟩ = some (.slice none 0 0) := by
      have : w.drew.heap[b]? = some (.cells #[p, .slice none 0 0] 141 (0, 0)) := hbk
      rw [Lib.cell_of_heap this]; rfl
    have hUS := fun W q => Lib.run_unsafeString_none (P := Tryz.prog) W 210 3 9 q
    have hSD : (Builtin.unsafeSliceData_ #[137] 210 #[.slice none 0 0]).run Tryz.prog w.drew = .ok (.pointer none) w.drew := rfl
    have mixed : Tryz.prog.follows Departure.mixedOrders = true := by kernel_rfl
    clear hown hbk hne hnil h1
    go_enter Tryz.func60, Tryz.ntmps60
    go_wp2
    go_region_o
    all_goals (go_wp2; go_ret; exact ⟨rfl, Below.drew (Below.refl B w)⟩)
  · have hl0 : l.length ≠ 0 := by simpa using h0
    obtain ⟨g, cap, cur, rfl, hbg, hg, hnc, hcm, hcs, htake⟩ : ∃ g cap cur, v = .slice (some ⟨g, 0, none⟩) l.length cap ∧ B ≤ g ∧ w.heap[g]? = some (.cells cur 5 (0, 0)) ∧ l.length ≤ cap ∧ cap ≤ maxLen ∧ cur.size = cap * 1 ∧ cur.toList.take (l.length * 1) = Lib.byteCells l := by
      rcases hown.2 with ⟨_, hz⟩ | ⟨g, cap, cur, hv, r⟩
      · exact absurd hz hl0
      · exact ⟨g, cap, cur, hv, r⟩
    have c1 : w.drew.cell? ⟨b, 1, none⟩ = some (.slice (some ⟨g, 0, none⟩) l.length cap) := by
      have : w.drew.heap[b]? = some (.cells #[p, .slice (some ⟨g, 0, none⟩) l.length cap] 141 (0, 0)) := hbk
      rw [Lib.cell_of_heap this]; rfl
    have hSD : (Builtin.unsafeSliceData_ #[137] 210 #[.slice (some ⟨g, 0, none⟩) l.length cap]).run Tryz.prog w.drew = .ok (.pointer (some ⟨g, 0, none⟩)) w.drew :=
      Lib.run_unsafeSliceData_row _ _ _ _ _ _ (by omega)
    have hUS : (Builtin.unsafeString_ #[210, 3] 9 #[.pointer (some ⟨g, 0, none⟩), .int .i64 l.length]).run Tryz.prog w.drew = .ok (.string ⟨l.toArray⟩) (w.drew.freeze ⟨g, 0, none⟩ l.length) := by
      refine Lib.run_unsafeString_row w.drew 210 3 9 5 Tryz.underlying210 byte_cells g cur.size (by have hg' : w.drew.heap[g]? = some (.cells cur 5 (0, 0)) := hg; simp [World.shape?, hg']) l h0 (by omega) (by omega) ?_
      intro j x hx
      exact hown.cells (g := g) rfl j (.int .u8 x.toNat) (by simp [Lib.byteCells, hx])
    have mixed : Tryz.prog.follows Departure.mixedOrders = true := by kernel_rfl
    clear hown hbk hne hnil h1 hg hcs htake
    go_enter Tryz.func60, Tryz.ntmps60
    go_wp2
    go_region_o
    all_goals (go_wp2; go_ret; exact ⟨rfl, Lib.below_freeze (Below.drew (Below.refl B w)) (p := ⟨g, 0, none⟩) hbg _⟩)
end Go.Proofs.YtdelpialeajajaaGreatDoor

/- syntax.writer: all: texts, one behind the other. -/
namespace Go.Proofs.YtdelpialeajajaaGreatDoor
open Go Go.RowKit
set_option maxRecDepth 10000

/-- a row of texts in a block of its own -/
def TxtRow (w : World) (g : Nat) (ws : List Wd) : Prop := ∃ t fz, t ≠ 5 ∧ t ≠ 141 ∧ w.heap[g]? = some (.cells (ws.map strv).toArray t fz)
theorem TxtRow.cell {w : World} {g : Nat} {ws : List Wd} (h : TxtRow w g ws) {j : Nat} (hj : j < ws.length) : w.cell? ⟨g, j, none⟩ = some (strv ws[j]) := by
  obtain ⟨t, fz, _, _, h⟩ := h
  rw [Lib.cell_of_heap h]
  simp [hj]
theorem TxtRow.ne {B b : Nat} {l : Wd} {w : World} {g : Nat} {ws : List Wd} (h : TxtRow w g ws) (k : WrAt B b l w) : g ≠ b := by
  rintro rfl
  obtain ⟨t, fz, h1, h2, h3⟩ := h
  obtain ⟨p, v, _, _, h4, _⟩ := k
  rw [h3] at h4
  simp only [Option.some.injEq, Obj.cells.injEq] at h4
  exact h2 h4.2.1
theorem TxtRow.keep {B b : Nat} {w w' : World} {g : Nat} {ws : List Wd} (h : TxtRow w g ws) (hb : g ≠ b) (k : WF B b w w') : TxtRow w' g ws := by
  obtain ⟨t, fz, h1, h2, h3⟩ := h
  exact ⟨t, fz, h1, h2, k.kept g _ h3 (by simpa using hb) (fun c fz e => by cases e; exact h1 rfl)⟩

theorem flat_take {ws : List Wd} {k : Nat} (hk : k < ws.length) : (ws.take (k + 1)).flatten = (ws.take k).flatten ++ ws[k] := by
  rw [List.take_succ_eq_append_getElem hk, List.flatten_append]
  simp
theorem flat_le {ws : List Wd} {k : Nat} (hk : k < ws.length) : ((ws.take k).flatten).length + ws[k].length ≤ ws.flatten.length := by
  have h := congrArg List.length (show (ws.take (k + 1)).flatten ++ (ws.drop (k + 1)).flatten = ws.flatten by rw [← List.flatten_append, List.take_append_drop])
  rw [flat_take hk, List.length_append, List.length_append] at h
  omega

set_option maxHeartbeats 4000000 in
theorem wr_all (B b g : Nat) (l : Wd) (ws : List Wd) (w : World) (h : WrAt B b l w) (hg : TxtRow w g ws) (hlen : l.length + ws.flatten.length ≤ 1000000000) (hn : ws.length ≤ 1000) :
    Calls Tryz.prog 89 #[.pointer (some ⟨b, 0, none⟩), .slice (some ⟨g, 0, none⟩) ws.length ws.length] w fun e w' => (∃ v, e = .returned v) ∧ WrAt B b (l ++ ws.flatten) w' ∧ WF B b w w' := by
  have hne := hg.ne h
  have HH := Lib.hid h
  have HG := Lib.hid hg
  have HNE := Lib.hid hne
  have HLEN := Lib.hid hlen
  obtain ⟨n, hnn⟩ : ∃ n, ws.length = n := ⟨_, rfl⟩
  have HN := Lib.hid hnn
  rw [hnn] at hn ⊢
  clear h hg hne hlen hnn
  go_enter Tryz.func89, Tryz.ntmps89
  go_wp2_with fail
  go_loopw [8] (fun iv wr => ∃ k : Nat, iv = .int .i64 (k : Nat) ∧ k ≤ n ∧ WrAt B b (l ++ (ws.take k).flatten) wr ∧ WF B b w wr) (fun iv _ => n - (intOf iv).toNat)
  case atStart => exact ⟨0, rfl, Nat.zero_le _, by simpa using HH.out, WF.refl _ _ _⟩
  case round =>
    obtain ⟨k, rfl, hk, hwr, hwf⟩ := hrel
    have HWR := Lib.hid hwr
    have HWF := Lib.hid hwf
    clear hwr hwf
    by_cases hlt : k < n
    · have hltI : (k : Int) < (n : Int) := by omega
      have hkx : k < ws.length := by rw [HN.out]; exact hlt
      have c0 := (HG.out.keep HNE.out HWF.out).cell hkx
      obtain ⟨x, hx⟩ : ∃ x, ws[k] = x := ⟨_, rfl⟩
      rw [hx] at c0
      have HE := Lib.hid (show l ++ (ws.take (k + 1)).flatten = (l ++ (ws.take k).flatten) ++ x by rw [flat_take hkx, hx, List.append_assoc])
      have HST := Lib.hid (wr_string B b (l ++ (ws.take k).flatten) x wr HWR.out (by
        have h1 := flat_le hkx
        have h2 := HLEN.out
        rw [hx] at h1
        rw [List.length_append]
        omega))
      clear hx
      go_wp2_with fail
      refine HST.out.mono ?_
      rintro e w2 ⟨⟨v, rfl⟩, hw2, hf2⟩
      have HW2 := Lib.hid hw2
      have HF2 := Lib.hid (HWF.out.trans hf2)
      clear hw2 hf2 c0
      go_wp2_with fail
      go_roundw
      case rel => exact ⟨k + 1, by go_num, by omega, by rw [HE.out]; exact HW2.out, HF2.out⟩
      case measure => simp [intOf]; omega
    · have hkn : k = n := by omega
      subst hkn
      have HE := Lib.hid (show l ++ (ws.take k).flatten = l ++ ws.flatten by rw [List.take_of_length_le (by rw [HN.out]; exact Nat.le_refl _)])
      go_wp2
      go_end0
      exact ⟨⟨_, rfl⟩, by rw [← HE.out]; exact HWR.out, HWF.out⟩
end Go.Proofs.YtdelpialeajajaaGreatDoor
