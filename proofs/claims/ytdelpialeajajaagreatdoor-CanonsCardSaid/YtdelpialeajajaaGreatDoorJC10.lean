import Derived.Test.YtdelpialeajajaaGreatDoorJC9
import Derived.Deep.CutBlock

/- What is wrong with marks: the fault that stands first. -/
namespace Go.Proofs.YtdelpialeajajaaGreatDoor
open Go Go.RowKit
set_option maxRecDepth 10000

def noMk : Mk := ⟨0, [], [], [], [], 0⟩
def mkA (l : List Mk) (i : Nat) : Mk := l.getD i noMk
def othD : Wd := [111, 116, 104, 101, 114]
def updF (st : Nat × Nat) (e a : Nat) : Nat × Nat := if st.1 = 0 ∨ a < st.2 then (e, a) else st
def likeD (m x : Mk) : Bool := decide (sortD x ≠ 0) && decide (x.name = m.name)
def kindD (l : List Mk) (i : Nat) (m : Mk) (st : Nat × Nat) : Nat × Nat :=
  if sortD m = 0 then st else match (l.take i).find? (likeD m) with | none => st | some x => if sortD x ≠ sortD m then updF st 5 m.pl else st
def sameT (l : List Mk) (x b : Nat) : Bool := decide ((mkA l b).text = (mkA l x).text)
def twA (l : List Mk) (bs : List Nat) (a : Nat) (st : Nat × Nat) : Nat × Nat := if (bs.take a).any (sameT l (bs.getD a 0)) = true then updF st 7 (mkA l (bs.getD a 0)).pl else st
def twGo (l : List Mk) (bs : List Nat) : Nat → Nat × Nat → Nat × Nat
  | 0, st => st
  | a + 1, st => twA l bs a (twGo l bs a st)
def isOth (l : List Mk) (b : Nat) : Bool := decide ((mkA l b).text = othD)
def stepD (l : List Mk) (i : Nat) (st : Nat × Nat) : Nat × Nat :=
  let m := mkA l i
  if m.kind ≠ 40 then kindD l i m st
  else if (branchesD l i).any (isOth l) = true then twGo l (branchesD l i) (branchesD l i).length (kindD l i m st)
  else updF (twGo l (branchesD l i) (branchesD l i).length (kindD l i m st)) 6 (mkA l (endL l i)).pl
def faultsGo (l : List Mk) : Nat → Nat × Nat
  | 0 => (0, 0)
  | i + 1 => stepD l i (faultsGo l i)
def faultsD (l : List Mk) : Nat × Nat := faultsGo l l.length

theorem mkA_lt {l : List Mk} {i : Nat} (h : i < l.length) : mkA l i = l[i] := by unfold mkA; simp [h]
theorem updF_twice (st : Nat × Nat) (a : Nat) : updF (updF st 7 a) 7 a = updF st 7 a := by
  unfold updF
  split
  · simp
  · rfl
theorem brGo_lt (l : List Mk) (e : Nat) : ∀ (n i : Nat), ∀ b ∈ brGo l e n i, b < e
  | 0, i, b, h => by cases h
  | n + 1, i, b, h => by
    rw [brGo] at h
    split at h
    · rcases List.mem_cons.1 h with rfl | h
      · assumption
      · exact brGo_lt l e n _ b h
    · cases h
theorem branchesD_lt {l : List Mk} {k b : Nat} (hk : k ≤ l.length) (h : b ∈ branchesD l k) : b < l.length := by
  have := brGo_lt l _ _ _ b h
  have := endL_le l k hk
  omega
theorem brGo_len (l : List Mk) (e : Nat) : ∀ (n i : Nat), (brGo l e n i).length ≤ n
  | 0, i => Nat.le_refl _
  | n + 1, i => by
    rw [brGo]
    split
    · have := brGo_len l e n (endL l i + 1)
      simp
      omega
    · exact Nat.zero_le _

/-- a row of marks, in a block -/
def MkRow (w : World) (g : Nat) (l : List Mk) : Prop := ∀ j o (h : j < l.length), o < 6 → w.cell? ⟨g, j * 6 + o, none⟩ = (markV l[j])[o]?
theorem MkRow.at_ {w : World} {g : Nat} {l : List Mk} (h : MkRow w g l) (j : Nat) (hj : j < l.length) : w.cell? ⟨g, j * 6, none⟩ = some (.int .u8 ((mkA l j).kind : Nat)) ∧ w.cell? ⟨g, j * 6 + 1, none⟩ = some (strv (mkA l j).text) ∧ w.cell? ⟨g, j * 6 + 2, none⟩ = some (strv (mkA l j).name) ∧
    w.cell? ⟨g, j * 6 + 3, none⟩ = some (strv (mkA l j).how) ∧ w.cell? ⟨g, j * 6 + 4, none⟩ = some (strv (mkA l j).off) ∧ w.cell? ⟨g, j * 6 + 5, none⟩ = some (.int .i64 ((mkA l j).pl : Nat)) := by
  rw [mkA_lt hj]
  exact ⟨h j 0 hj (by omega), h j 1 hj (by omega), h j 2 hj (by omega), h j 3 hj (by omega), h j 4 hj (by omega), h j 5 hj (by omega)⟩
theorem MkRow.below {w w' : World} {g : Nat} {l : List Mk} (h : MkRow w g l) (hb : Below w.heap.size w w') : MkRow w' g l := by
  intro j o hj ho
  have h0 := h j 0 hj (by omega)
  have hlt : g < w.heap.size := World.block_lt_of_cell? w _ h0
  exact (hb.cell (p := ⟨g, j * 6 + o, none⟩) hlt).trans (h j o hj ho)
theorem MarksAt.row {w : World} {v : Value} {l : List Mk} (h : MarksAt w v l) (hl : 0 < l.length) : ∃ g cap, v = .slice (some ⟨g, 0, none⟩) l.length cap ∧ MkRow w g l := h.ne hl

theorem find_more {l : List Mk} {p : Mk → Bool} {k : Nat} (hk : k < l.length) (h : (l.take k).find? p = none) (hp : p l[k] = false) : (l.take (k + 1)).find? p = none := by
  rw [List.take_succ_eq_append_getElem hk, List.find?_append, h]
  simp [hp]
theorem find_hit {l : List Mk} {p : Mk → Bool} {k i : Nat} (hk : k < l.length) (hi : k < i) (h : (l.take k).find? p = none) (hp : p l[k] = true) : (l.take i).find? p = some l[k] := by
  have e : l.take i = l.take k ++ l[k] :: (l.drop (k + 1)).take (i - (k + 1)) := by
    rw [show i = k + (i - k) by omega, List.take_add, drop_mk hk, show i - k = (i - (k + 1)) + 1 by omega, List.take_succ_cons]
    congr 3
    omega
  rw [e, List.find?_append, h]
  simp [hp]

set_option maxHeartbeats 16000000 in
theorem faults_any (v : Value) (l : List Mk) (w : World) (h : MarksAt w v l) (hl : l.length ≤ 1000000) (hkind : ∀ m ∈ l, m.kind < 256) (hwf : ∀ i (h : i < l.length), l[i].kind = 40 → endL l i < l.length) :
    Calls Tryz.prog 34 #[v] w fun e w' => e = .returned (.tuple #[.int .i64 ((faultsD l).1 : Nat), .int .i64 ((faultsD l).2 : Nat)]) ∧ Below w.heap.size w w' := by
  obtain ⟨sa, sc, hv⟩ := h.sl
  have HH := Lib.hid h
  have HWF := Lib.hid hwf
  have HBR := Lib.hid (fun k (hk : k < l.length) W (h : MarksAt W v l) => branches_any v l k W h hk hl hkind)
  have HEN := Lib.hid (fun k (hk : k ≤ l.length) W (h : MarksAt W v l) => end_any v l k W h hk hl hkind)
  have HKD := Lib.hid hkind
  obtain ⟨n, hn⟩ : ∃ n, l.length = n := ⟨_, rfl⟩
  rw [hn] at hl hv
  have HN := Lib.hid hn
  have HR := Lib.hid (fun (h : 0 < l.length) => HH.out.row h)
  subst hv
  clear h hkind hwf hn
  go_enter Tryz.func34, Tryz.ntmps34
  go_wp2_with fail
  go_loopw [4, 5, 6] (fun ev av iv wr => ∃ i e a : Nat, iv = .int .i64 (i : Nat) ∧ ev = .int .i64 (e : Nat) ∧ av = .int .i64 (a : Nat) ∧ i ≤ n ∧ faultsGo l i = (e, a) ∧ Below w.heap.size w wr) (fun _ _ iv _ => n - (intOf iv).toNat)
  case atStart => exact ⟨0, 0, 0, rfl, rfl, rfl, Nat.zero_le _, rfl, Below.refl _ _⟩
  case round =>
    obtain ⟨i, e, a, rfl, rfl, rfl, hi, hst, hbl⟩ := hrel
    have HST := Lib.hid hst
    have HBL := Lib.hid hbl
    clear hst hbl
    by_cases hlt : i < n
    · have hltI : (i : Int) < (n : Int) := by omega
      have hil : i < l.length := by rw [HN.out]; exact hlt
      obtain ⟨g, cap', hg1, hrow⟩ := HR.out (by omega)
      obtain rfl : sa = some ⟨g, 0, none⟩ := by cases hg1; rfl
      clear hg1
      have HROW := Lib.hid hrow
      have HRW := Lib.hid (hrow.below HBL.out)
      obtain ⟨m, hm⟩ : ∃ m, mkA l i = m := ⟨_, rfl⟩
      obtain ⟨c0, c1, c2, c3, c4, c5⟩ := HRW.out.at_ i hil
      rw [hm] at c0 c1 c2 c3 c4 c5
      have HM := Lib.hid hm
      obtain ⟨pl, hpl⟩ : ∃ n, m.pl = n := ⟨_, rfl⟩
      have HPL := Lib.hid hpl
      clear hm hrow hpl
      go_wp2_with fail
      refine (sort_any m wr).mono ?_
      rintro e1 w1 ⟨rfl, hb1⟩
      obtain ⟨so, hso⟩ : ∃ s, sortD m = s := ⟨_, rfl⟩
      rw [hso]
      have HSO := Lib.hid hso
      have HB1 := Lib.hid (HBL.out.trans (hb1.mono HBL.out.size))
      clear hb1 hso c0 c1 c2 c3 c4 c5
      obtain ⟨⟨e1, a1⟩, hka⟩ : ∃ st, kindD l i m (e, a) = st := ⟨_, rfl⟩
      have HKA := Lib.hid hka
      clear hka
      go_upto_block 2 with fail
      go_cut [4, 5] (fun ev av wc => ev = .int .i64 (e1 : Nat) ∧ av = .int .i64 (a1 : Nat) ∧ Below w.heap.size w wc)
      case first =>
        go_wp2_with fail
        go_loopw [4, 5, 8] (fun ev av kv wr => ∃ k : Nat, ev = .int .i64 (e : Nat) ∧ av = .int .i64 (a : Nat) ∧ kv = .int .i64 (k : Nat) ∧ k ≤ i ∧ (so ≠ 0 → (l.take k).find? (likeD m) = none) ∧ Below w.heap.size w wr) (fun _ _ kv _ => i - (intOf kv).toNat)
        case atStart => exact ⟨0, rfl, rfl, rfl, Nat.zero_le _, fun _ => rfl, HB1.out⟩
        case round =>
          obtain ⟨k, rfl, rfl, rfl, hk, hnf, hbk⟩ := hrel
          have HNF := Lib.hid hnf
          have HBK := Lib.hid hbk
          clear hnf hbk
          by_cases hso0 : so = 0
          · have HF := Lib.hid (show kindD l i m (e, a) = (e, a) by unfold kindD; rw [HSO.out, if_pos hso0])
            have js : ((so : Int) == 0) = true := by simp [hso0]
            have js2 : ((so : Int) != 0) = false := by rw [bne, js]; rfl
            have he1 : e1 = e := by have := HKA.out.symm.trans HF.out; cases this; rfl
            have ha1 : a1 = a := by have := HKA.out.symm.trans HF.out; cases this; rfl
            subst he1 ha1
            clear hso0
            by_cases hki : k < i
            · have hkiI : (k : Int) < (i : Int) := by omega
              go_wp2_with fail
              go_meet
              case rel => exact ⟨rfl, rfl, HBK.out⟩
            · have hkiI : ¬ (k : Int) < (i : Int) := by omega
              go_wp2_with fail
              go_meet
              case rel => exact ⟨rfl, rfl, HBK.out⟩
          · have js : ((so : Int) == 0) = false := by simp; omega
            have js2 : ((so : Int) != 0) = true := by rw [bne, js]; rfl
            by_cases hki : k < i
            · have hkiI : (k : Int) < (i : Int) := by omega
              have hkl : k < l.length := by omega
              have hkn : k < n := by omega
              have hknI : (k : Int) < (n : Int) := by omega
              have HRK := Lib.hid (HROW.out.below HBK.out)
              obtain ⟨x, hx⟩ : ∃ x, mkA l k = x := ⟨_, rfl⟩
              obtain ⟨c0, c1, c2, c3, c4, c5⟩ := HRK.out.at_ k hkl
              rw [hx] at c0 c1 c2 c3 c4 c5
              have HX := Lib.hid (show l[k] = x by rw [← mkA_lt hkl]; exact hx)
              have HS0 := Lib.hid hso0
              clear hx hso0
              go_wp2_with fail
              refine (sort_any x wr).mono ?_
              rintro e2 w2 ⟨rfl, hb2⟩
              obtain ⟨z, hz⟩ : ∃ s, sortD x = s := ⟨_, rfl⟩
              rw [hz]
              have HZ := Lib.hid hz
              have hb2 := HBK.out.trans (hb2.mono HBK.out.size)
              have HB2 := Lib.hid hb2
              have hr2 := HROW.out.below hb2
              clear hz hb2 c0 c1 c2 c3 c4 c5
              obtain ⟨-, -, d2, -, -, -⟩ := hr2.at_ k hkl
              obtain ⟨-, -, f2, -, -, f5⟩ := hr2.at_ i hil
              rw [HM.out] at f2 f5
              rw [HPL.out] at f5
              rw [mkA_lt hkl, HX.out] at d2
              have HD2 := Lib.hid d2
              have HF2 := Lib.hid f2
              have HF5 := Lib.hid f5
              clear hr2
              have hS0 : w2.drew.cell? ⟨g, k * 6 + 2, none⟩ = some (strv x.name) ∧ w2.drew.cell? ⟨g, i * 6 + 2, none⟩ = some (strv m.name) := ⟨d2, f2⟩
              by_cases hz0 : z = 0
              · have jz : ((z : Int) == 0) = true := by simp [hz0]
                have HL := Lib.hid (show likeD m l[k] = false by rw [HX.out]; unfold likeD; rw [HZ.out, hz0]; rfl)
                clear hz0 d2 f2 f5
                go_wp2_with fail
                refine wp_region_takes (fun W' : World => W'.cell? ⟨g, k * 6 + 2, none⟩ = some (strv x.name) ∧ W'.cell? ⟨g, i * 6 + 2, none⟩ = some (strv m.name)) [0, 1, 2, 3, 4, 5, 6, 7, 8, 9, 10, 11, 12, 13, 14] 0 (by intro _ _ d _ _ h; cases d <;> exact h) (by kernel_rfl) (by kernel_rfl) hS0 ?_
                (iterate 15 (first | (refine takes_yes (v := ?_) rfl (by rfl) ?_ ?_; rotate_left; (focus ((intro w' hS'; (try dsimp only at hS'); go_simp; try (with_reducible rfl)); done)); (try simp only [Act.put, List.setIfInBounds_toArray, List.set_cons_zero, List.set_cons_succ])) | (refine takes_no rfl (by rfl) ?_; (try simp only [Act.put, List.setIfInBounds_toArray, List.set_cons_zero, List.set_cons_succ]))))
                refine takes_nil ?_
                refine wpAnyH_done (by kernel_rfl) ?_ _
                go_wp2_with fail
                go_roundw
                case rel => exact ⟨k + 1, rfl, rfl, by go_num, by omega, fun h => find_more hkl (HNF.out h) HL.out, HB2.out.drew⟩
                case measure => simp [intOf]; omega
              · have jz : ((z : Int) == 0) = false := by simp; omega
                by_cases hnm : x.name = m.name
                · have jn : (x.name == m.name) = true := by simpa using hnm
                  have jn2 : (x.name != m.name) = false := by rw [bne, jn]; rfl
                  have HL := Lib.hid (show likeD m l[k] = true by rw [HX.out]; unfold likeD; rw [HZ.out]; simp [hz0, hnm])
                  have HFD := Lib.hid (find_hit hkl hki (HNF.out HS0.out) HL.out)
                  clear hz0 d2 f2 f5 hnm
                  go_wp2_with fail
                  refine wp_region_takes (fun W' : World => W'.cell? ⟨g, k * 6 + 2, none⟩ = some (strv x.name) ∧ W'.cell? ⟨g, i * 6 + 2, none⟩ = some (strv m.name)) [0, 1, 2, 3, 4, 5, 6, 7, 8, 9, 10, 11, 12, 13, 14] 0 (by intro _ _ d _ _ h; cases d <;> exact h) (by kernel_rfl) (by kernel_rfl) hS0 ?_
                  (iterate 15 (first | (refine takes_yes (v := ?_) rfl (by rfl) ?_ ?_; rotate_left; (focus ((intro w' hS'; (try dsimp only at hS'); go_simp; try (with_reducible rfl)); done)); (try simp only [Act.put, List.setIfInBounds_toArray, List.set_cons_zero, List.set_cons_succ])) | (refine takes_no rfl (by rfl) ?_; (try simp only [Act.put, List.setIfInBounds_toArray, List.set_cons_zero, List.set_cons_succ]))))
                  refine takes_nil ?_
                  refine wpAnyH_done (by kernel_rfl) ?_ _
                  have HK0 := Lib.hid (show kindD l i m (e, a) = if z ≠ so then updF (e, a) 5 pl else (e, a) by unfold kindD; rw [HSO.out, if_neg HS0.out, HFD.out, HX.out]; dsimp only; rw [HZ.out, HPL.out])
                  have f5 : w2.drew.cell? ⟨g, i * 6 + 5, none⟩ = some (.int .i64 (pl : Nat)) := HF5.out
                  by_cases hzs : z = so
                  · have jzs : ((z : Int) == (so : Int)) = true := by simp [hzs]
                    have jzs2 : ((z : Int) != (so : Int)) = false := by rw [bne, jzs]; rfl
                    have jzs3 : (z == so) = true := by simp [hzs]
                    have jzs4 : (z != so) = false := by simp [hzs]
                    have HK1 := Lib.hid (HK0.out.trans (if_neg (not_not_intro hzs)))
                    clear hzs
                    go_wp2_with fail
                    go_meet
                    case rel =>
                      have hx := HKA.out.symm.trans HK1.out
                      cases hx
                      exact ⟨rfl, rfl, HB2.out.drew⟩
                  · have jzs : ((z : Int) == (so : Int)) = false := by simp; omega
                    have jzs2 : ((z : Int) != (so : Int)) = true := by rw [bne, jzs]; rfl
                    have jzs3 : (z == so) = false := by simpa using hzs
                    have jzs4 : (z != so) = true := by rw [bne, jzs3]; rfl
                    have HK0 := Lib.hid (HK0.out.trans (if_pos hzs))
                    clear hzs
                    by_cases he0 : e = 0
                    · have je : ((e : Int) == 0) = true := by simp [he0]
                      have jen : (e == 0) = true := by simp [he0]
                      have HU := Lib.hid (show updF (e, a) 5 pl = (5, pl) from if_pos (.inl he0))
                      clear he0
                      go_wp2_with fail
                      go_meet
                      case rel =>
                        have hx := HKA.out.symm.trans (HK0.out.trans HU.out)
                        cases hx
                        exact ⟨rfl, rfl, HB2.out.drew⟩
                    · have je : ((e : Int) == 0) = false := by simp; omega
                      have jen : (e == 0) = false := by simpa using he0
                      by_cases hp : pl < a
                      · have jp : decide ((pl : Int) < (a : Int)) = true := by simp; omega
                        have jpn : decide (pl < a) = true := by simpa using hp
                        have jpi : (pl : Int) < (a : Int) := by omega
                        have HU := Lib.hid (show updF (e, a) 5 pl = (5, pl) from if_pos (.inr hp))
                        clear he0
                        go_wp2_with fail
                        go_meet
                        case rel =>
                          have hx := HKA.out.symm.trans (HK0.out.trans HU.out)
                          cases hx
                          exact ⟨rfl, rfl, HB2.out.drew⟩
                      · have jp : decide ((pl : Int) < (a : Int)) = false := by simp; omega
                        have jpn : decide (pl < a) = false := by simpa using hp
                        have jpi : ¬ (pl : Int) < (a : Int) := by omega
                        have HU := Lib.hid (show updF (e, a) 5 pl = (e, a) from if_neg (fun h => by rcases h with h | h; exact he0 h; exact hp h))
                        clear he0
                        go_wp2_with fail
                        go_meet
                        case rel =>
                          have hx := HKA.out.symm.trans (HK0.out.trans HU.out)
                          cases hx
                          exact ⟨rfl, rfl, HB2.out.drew⟩
                · have jn : (x.name == m.name) = false := beq_eq_false_iff_ne.2 hnm
                  have jn2 : (x.name != m.name) = true := by rw [bne, jn]; rfl
                  have HL := Lib.hid (show likeD m l[k] = false by rw [HX.out]; unfold likeD; simp [hnm])
                  clear hz0 d2 f2 f5 hnm
                  go_wp2_with fail
                  refine wp_region_takes (fun W' : World => W'.cell? ⟨g, k * 6 + 2, none⟩ = some (strv x.name) ∧ W'.cell? ⟨g, i * 6 + 2, none⟩ = some (strv m.name)) [0, 1, 2, 3, 4, 5, 6, 7, 8, 9, 10, 11, 12, 13, 14] 0 (by intro _ _ d _ _ h; cases d <;> exact h) (by kernel_rfl) (by kernel_rfl) hS0 ?_
                  (iterate 15 (first | (refine takes_yes (v := ?_) rfl (by rfl) ?_ ?_; rotate_left; (focus ((intro w' hS'; (try dsimp only at hS'); go_simp; try (with_reducible rfl)); done)); (try simp only [Act.put, List.setIfInBounds_toArray, List.set_cons_zero, List.set_cons_succ])) | (refine takes_no rfl (by rfl) ?_; (try simp only [Act.put, List.setIfInBounds_toArray, List.set_cons_zero, List.set_cons_succ]))))
                  refine takes_nil ?_
                  refine wpAnyH_done (by kernel_rfl) ?_ _
                  go_wp2_with fail
                  go_roundw
                  case rel => exact ⟨k + 1, rfl, rfl, by go_num, by omega, fun h => find_more hkl (HNF.out h) HL.out, HB2.out.drew⟩
                  case measure => simp [intOf]; omega
            · have HF := Lib.hid (show kindD l i m (e, a) = (e, a) by unfold kindD; rw [HSO.out, if_neg hso0, show i = k by omega, HNF.out hso0])
              have hkiI : ¬ (k : Int) < (i : Int) := by omega
              have he1 : e1 = e := by have := HKA.out.symm.trans HF.out; cases this; rfl
              have ha1 : a1 = a := by have := HKA.out.symm.trans HF.out; cases this; rfl
              subst he1 ha1
              clear hso0
              go_wp2_with fail
              go_meet
              case rel => exact ⟨rfl, rfl, HBK.out⟩
      case rest =>
        obtain ⟨rfl, rfl, hbc⟩ := hcut
        have HBC := Lib.hid hbc
        have HRC := Lib.hid (HROW.out.below hbc)
        have f0 := (HRC.out.at_ i hil).1
        rw [HM.out] at f0
        obtain ⟨kd, hkd⟩ : ∃ k, m.kind = k := ⟨_, rfl⟩
        rw [hkd] at f0
        have HKI := Lib.hid hkd
        clear hbc hkd
        by_cases h40 : kd = 40
        case neg =>
          have j40 : ((kd : Int) == 40) = false := by simp; omega
          have j402 : ((kd : Int) != 40) = true := by rw [bne, j40]; rfl
          have HSD := Lib.hid (show faultsGo l (i + 1) = (e1, a1) by
            show stepD l i (faultsGo l i) = _
            rw [HST.out]
            unfold stepD
            dsimp only
            rw [HM.out, if_pos (by rw [HKI.out]; exact h40)]
            exact HKA.out)
          clear h40
          go_wp2_with fail
          go_roundw
          case rel => exact ⟨i + 1, e1, a1, by go_num, rfl, rfl, by omega, HSD.out, HBC.out⟩
          case measure => simp [intOf]; omega
        have HK40 := Lib.hid (show m.kind = 40 from HKI.out.trans h40)
        subst h40
        go_wp2_with fail
        refine (HBR.out i hil wc (HH.out.below HBC.out)).mono ?_
        rintro e2 w3 ⟨u, rfl, hou, hb3⟩
        obtain ⟨B, hB⟩ : ∃ B, branchesD l i = B := ⟨_, rfl⟩
        rw [hB] at hou
        have HBB := Lib.hid hB
        have HBLT := Lib.hid (fun b (hb : b ∈ B) => branchesD_lt (l := l) (k := i) (by omega) (hB ▸ hb))
        have hnbl : B.length ≤ l.length + 1 := hB ▸ brGo_len l _ _ _
        obtain ⟨nb, hnb⟩ : ∃ n, B.length = n := ⟨_, rfl⟩
        rw [hnb] at hou hnbl
        have HNB := Lib.hid hnb
        have hnbm : nb ≤ 1000001 := by have := HN.out; omega
        obtain ⟨ba, bc, rfl⟩ := own_slice hou
        have HOU := Lib.hid hou
        have HB3 := Lib.hid (HBC.out.trans (hb3.mono HBC.out.size))
        obtain ⟨⟨e2, a2⟩, htw⟩ : ∃ st, twGo l B nb (e1, a1) = st := ⟨_, rfl⟩
        have HTW := Lib.hid htw
        obtain ⟨ob, hob⟩ : ∃ b, B.any (isOth l) = b := ⟨_, rfl⟩
        have HOB := Lib.hid hob
        clear hB hnb hou hb3 htw hob f0
        go_upto_block 4 with fail
        go_cut [4, 5, 11] (fun ev av ov wc => ev = .int .i64 (e2 : Nat) ∧ av = .int .i64 (a2 : Nat) ∧ ov = .bool ob ∧ Below w.heap.size w wc)
        case first =>
          go_wp2_with fail
          go_loopw [4, 5, 11, 12] (fun ev av ov kv wr => ∃ (k e' a' : Nat) (o' : Bool), ev = .int .i64 (e' : Nat) ∧ av = .int .i64 (a' : Nat) ∧ ov = .bool o' ∧ kv = .int .i64 (k : Nat) ∧ k ≤ nb ∧ twGo l B k (e1, a1) = (e', a') ∧ (B.take k).any (isOth l) = o' ∧ Below w3.heap.size w3 wr) (fun _ _ _ kv _ => nb - (intOf kv).toNat)
          case atStart => exact ⟨0, e1, a1, false, rfl, rfl, rfl, rfl, Nat.zero_le _, rfl, rfl, Below.refl _ _⟩
          case round =>
            obtain ⟨k, e', a', o', rfl, rfl, rfl, rfl, hk, htk, hot, hbk⟩ := hrel
            have HTK := Lib.hid htk
            have HOT := Lib.hid hot
            have HBK := Lib.hid hbk
            clear htk hot hbk
            have hkm : k ≤ 1000001 := by omega
            by_cases hkb : k < nb
            · have hkbI : (k : Int) < (nb : Int) := by omega
              obtain ⟨gb, oc, hvv, hpg, hgw, hcell⟩ := own_some HOU.out (by omega)
              obtain rfl : ba = some ⟨gb, 0, none⟩ := by cases hvv; rfl
              have hgb3 : gb < w3.heap.size := hgw
              have HCI := Lib.hid (fun W (hb : Below w3.heap.size w3 W) j (hj : j < nb) => (show W.cell? ⟨gb, j, none⟩ = some (.int .i64 ((B[j]'(by rw [HNB.out]; exact hj)) : Nat)) from (hb.cell (p := ⟨gb, j, none⟩) hgb3).trans (by rw [hcell j (by omega)]; simp [intsC, HNB.out, hj])))
              have HRK := Lib.hid (fun W (hb : Below w3.heap.size w3 W) => HROW.out.below (HB3.out.trans (hb.mono HB3.out.size)))
              have hkB : k < B.length := by rw [HNB.out]; exact hkb
              obtain ⟨bk, hbkk⟩ : ∃ b, B[k] = b := ⟨_, rfl⟩
              have hbl : bk < l.length := HBLT.out bk (hbkk ▸ List.getElem_mem hkB)
              have hbn : bk < n := by rw [← HN.out]; exact hbl
              have hbnI : (bk : Int) < (n : Int) := by omega
              have d0 := HCI.out _ HBK.out k hkb
              rw [hbkk] at d0
              have HBKK := Lib.hid hbkk
              obtain ⟨-, d1, -, -, -, d5⟩ := (HRK.out _ HBK.out).at_ bk hbl
              obtain ⟨tk, htk⟩ : ∃ t, (mkA l bk).text = t := ⟨_, rfl⟩
              obtain ⟨plk, hplk⟩ : ∃ t, (mkA l bk).pl = t := ⟨_, rfl⟩
              rw [htk] at d1
              rw [hplk] at d5
              have HT := Lib.hid htk
              have HPK := Lib.hid hplk
              clear hvv hcell hbkk htk hplk
              go_upto_region 21 with fail
              go_cut [11] (fun ov wc => ov = .bool (o' || isOth l bk) ∧ wc = wr)
              case first =>
                cases o' with
                | true =>
                  go_wp2_with fail
                  go_meet
                  case rel => exact ⟨rfl, rfl⟩
                | false =>
                  by_cases hto : tk = othD
                  · have jt : (tk == [111, 116, 104, 101, 114]) = true := by rw [hto]; rfl
                    have HI := Lib.hid (show isOth l bk = true by unfold isOth; rw [HT.out]; simpa using hto)
                    clear hto
                    go_wp2_with fail
                    go_meet
                    case rel => exact ⟨by rw [HI.out]; rfl, rfl⟩
                  · have jt : (tk == [111, 116, 104, 101, 114]) = false := beq_eq_false_iff_ne.2 hto
                    have HI := Lib.hid (show isOth l bk = false by unfold isOth; rw [HT.out]; simpa using hto)
                    clear hto
                    go_wp2_with fail
                    go_meet
                    case rel => exact ⟨by rw [HI.out]; rfl, rfl⟩
              case rest =>
                obtain ⟨rfl, rfl⟩ := hcut
                have HOT2 := Lib.hid (show (B.take (k + 1)).any (isOth l) = (o' || isOth l bk) by rw [List.take_succ_eq_append_getElem hkB, List.any_append, HOT.out, HBKK.out]; simp)
                obtain ⟨⟨e3, a3⟩, hta⟩ : ∃ st, twA l B k (e', a') = st := ⟨_, rfl⟩
                have HTA := Lib.hid (show (if (B.take k).any (sameT l bk) = true then updF (e', a') 7 plk else (e', a')) = (e3, a3) by
                  rw [← hta]
                  unfold twA
                  rw [show B.getD k 0 = bk by rw [← HBKK.out]; simp [hkB], HPK.out])
                have HTK2 := Lib.hid (show twGo l B (k + 1) (e1, a1) = (e3, a3) by rw [twGo, HTK.out, hta])
                clear hta
                skip
                ·
                  clear d0 d1 d5
                  go_wp2_with fail
                  go_loopw [4, 5, 13] (fun ev av qv wr => ∃ q ec ac : Nat, ev = .int .i64 (ec : Nat) ∧ av = .int .i64 (ac : Nat) ∧ qv = .int .i64 (q : Nat) ∧ q ≤ k ∧ (if (B.take q).any (sameT l bk) = true then updF (e', a') 7 plk else (e', a')) = (ec, ac) ∧ Below w3.heap.size w3 wr) (fun _ _ qv _ => k - (intOf qv).toNat)
                  case atStart => exact ⟨0, e', a', rfl, rfl, rfl, Nat.zero_le _, rfl, HBK.out⟩
                  case round =>
                    obtain ⟨q, ec, ac, rfl, rfl, rfl, hq, hcu, hbq⟩ := hrel
                    have HCU := Lib.hid hcu
                    have HBQ := Lib.hid hbq
                    clear hcu hbq
                    have hqm : q ≤ 1000001 := by omega
                    by_cases hqk : q < k
                    · have hqkI : (q : Int) < (k : Int) := by omega
                      have hqb : q < nb := by omega
                      have hqbI : (q : Int) < (nb : Int) := by omega
                      have hqB : q < B.length := by rw [HNB.out]; exact hqb
                      obtain ⟨bq, hbqq⟩ : ∃ b, B[q] = b := ⟨_, rfl⟩
                      have hql : bq < l.length := HBLT.out bq (hbqq ▸ List.getElem_mem hqB)
                      have hqn : bq < n := by rw [← HN.out]; exact hql
                      have hqnI : (bq : Int) < (n : Int) := by omega
                      have d0 := HCI.out _ HBQ.out k hkb
                      rw [HBKK.out] at d0
                      have d2 := HCI.out _ HBQ.out q hqb
                      rw [hbqq] at d2
                      have HBQQ := Lib.hid hbqq
                      obtain ⟨-, d1, -, -, -, d5⟩ := (HRK.out _ HBQ.out).at_ bk hbl
                      obtain ⟨-, d3, -, -, -, -⟩ := (HRK.out _ HBQ.out).at_ bq hql
                      rw [HT.out] at d1
                      rw [HPK.out] at d5
                      obtain ⟨tq, htq⟩ : ∃ t, (mkA l bq).text = t := ⟨_, rfl⟩
                      rw [htq] at d3
                      have HTQ := Lib.hid htq
                      have HTAK := Lib.hid (show (B.take (q + 1)).any (sameT l bk) = ((B.take q).any (sameT l bk) || sameT l bk bq) by rw [List.take_succ_eq_append_getElem hqB, List.any_append, HBQQ.out]; simp)
                      have HD5 := Lib.hid d5
                      have HD0 := Lib.hid d0
                      clear hbqq htq
                      go_wp2_with fail
                      have hS0 : wr.drew.cell? ⟨gb, k, none⟩ = some (.int .i64 (bk : Nat)) ∧ wr.drew.cell? ⟨gb, q, none⟩ = some (.int .i64 (bq : Nat)) ∧ wr.drew.cell? ⟨g, bk * 6 + 1, none⟩ = some (strv tk) ∧ wr.drew.cell? ⟨g, bq * 6 + 1, none⟩ = some (strv tq) ∧ wr.drew.cell? ⟨g, bk * 6 + 5, none⟩ = some (.int .i64 (plk : Nat)) := ⟨d0, d2, d1, d3, d5⟩
                      clear d0 d1 d2 d3 d5
                      by_cases htt : tk = tq
                      · have jt : (tk == tq) = true := by simpa using htt
                        have HSM := Lib.hid (show sameT l bk bq = true by unfold sameT; rw [HT.out, HTQ.out]; simp [htt])
                        clear htt
                        by_cases he0 : ec = 0
                        · have je : ((ec : Int) == 0) = true := by simp [he0]
                          have jen : (ec == 0) = true := by simp [he0]
                          have HU := Lib.hid (show updF (ec, ac) 7 plk = (7, plk) from if_pos (.inl he0))
                          clear he0
                          refine wp_region_takes (fun W' : World => W'.cell? ⟨gb, k, none⟩ = some (.int .i64 (bk : Nat)) ∧ W'.cell? ⟨gb, q, none⟩ = some (.int .i64 (bq : Nat)) ∧ W'.cell? ⟨g, bk * 6 + 1, none⟩ = some (strv tk) ∧ W'.cell? ⟨g, bq * 6 + 1, none⟩ = some (strv tq) ∧ W'.cell? ⟨g, bk * 6 + 5, none⟩ = some (.int .i64 (plk : Nat))) [0, 1, 2, 3, 4, 5, 6, 7, 8, 9, 10, 11, 12, 13, 14, 15, 16, 17, 18, 19, 20, 21, 22, 23, 24, 25, 26, 27, 28, 29, 30, 31, 32] 0 (by intro _ _ d _ _ h; cases d <;> exact h) (by kernel_rfl) (by kernel_rfl) hS0 ?_
                          (iterate 33 (first | (refine takes_yes (v := ?_) rfl (by rfl) ?_ ?_; rotate_left; (focus ((intro w' hS'; (try dsimp only at hS'); go_simp; try (with_reducible rfl)); done)); (try simp only [Act.put, List.setIfInBounds_toArray, List.set_cons_zero, List.set_cons_succ])) | (refine takes_no rfl (by rfl) ?_; (try simp only [Act.put, List.setIfInBounds_toArray, List.set_cons_zero, List.set_cons_succ]))))
                          refine takes_nil ?_
                          refine wpAnyH_done (by kernel_rfl) ?_ _
                          have f5 : wr.drew.cell? ⟨g, bk * 6 + 5, none⟩ = some (.int .i64 (plk : Nat)) := HD5.out
                          have f0 : wr.drew.cell? ⟨gb, k, none⟩ = some (.int .i64 (bk : Nat)) := HD0.out
                          go_wp2_with fail
                          go_roundw
                          case rel => exact ⟨q + 1, _, _, rfl, rfl, by go_num, by omega, by
                            rw [HTAK.out, HSM.out, Bool.or_true, if_pos rfl, ← HU.out, ← HCU.out]
                            split
                            · exact (updF_twice _ _).symm
                            · rfl, HBQ.out.drew⟩
                          case measure => simp [intOf]; omega
                        · have je : ((ec : Int) == 0) = false := by simp; omega
                          have jen : (ec == 0) = false := by simpa using he0
                          by_cases hp : plk < ac
                          · have jp : decide ((plk : Int) < (ac : Int)) = true := by simp; omega
                            have jpn : decide (plk < ac) = true := by simpa using hp
                            have jpi : (plk : Int) < (ac : Int) := by omega
                            have HU := Lib.hid (show updF (ec, ac) 7 plk = (7, plk) from if_pos (.inr hp))
                            clear he0
                            refine wp_region_takes (fun W' : World => W'.cell? ⟨gb, k, none⟩ = some (.int .i64 (bk : Nat)) ∧ W'.cell? ⟨gb, q, none⟩ = some (.int .i64 (bq : Nat)) ∧ W'.cell? ⟨g, bk * 6 + 1, none⟩ = some (strv tk) ∧ W'.cell? ⟨g, bq * 6 + 1, none⟩ = some (strv tq) ∧ W'.cell? ⟨g, bk * 6 + 5, none⟩ = some (.int .i64 (plk : Nat))) [0, 1, 2, 3, 4, 5, 6, 7, 8, 9, 10, 11, 12, 13, 14, 15, 16, 17, 18, 19, 20, 21, 22, 23, 24, 25, 26, 27, 28, 29, 30, 31, 32] 0 (by intro _ _ d _ _ h; cases d <;> exact h) (by kernel_rfl) (by kernel_rfl) hS0 ?_
                            (iterate 33 (first | (refine takes_yes (v := ?_) rfl (by rfl) ?_ ?_; rotate_left; (focus ((intro w' hS'; (try dsimp only at hS'); go_simp; try (with_reducible rfl)); done)); (try simp only [Act.put, List.setIfInBounds_toArray, List.set_cons_zero, List.set_cons_succ])) | (refine takes_no rfl (by rfl) ?_; (try simp only [Act.put, List.setIfInBounds_toArray, List.set_cons_zero, List.set_cons_succ]))))
                            refine takes_nil ?_
                            refine wpAnyH_done (by kernel_rfl) ?_ _
                            have f5 : wr.drew.cell? ⟨g, bk * 6 + 5, none⟩ = some (.int .i64 (plk : Nat)) := HD5.out
                            have f0 : wr.drew.cell? ⟨gb, k, none⟩ = some (.int .i64 (bk : Nat)) := HD0.out
                            go_wp2_with fail
                            go_roundw
                            case rel => exact ⟨q + 1, _, _, rfl, rfl, by go_num, by omega, by
                              rw [HTAK.out, HSM.out, Bool.or_true, if_pos rfl, ← HU.out, ← HCU.out]
                              split
                              · exact (updF_twice _ _).symm
                              · rfl, HBQ.out.drew⟩
                            case measure => simp [intOf]; omega
                          · have jp : decide ((plk : Int) < (ac : Int)) = false := by simp; omega
                            have jpn : decide (plk < ac) = false := by simpa using hp
                            have jpi : ¬ (plk : Int) < (ac : Int) := by omega
                            have HU := Lib.hid (show updF (ec, ac) 7 plk = (ec, ac) from if_neg (fun h => by rcases h with h | h; exact he0 h; exact hp h))
                            clear he0
                            refine wp_region_takes (fun W' : World => W'.cell? ⟨gb, k, none⟩ = some (.int .i64 (bk : Nat)) ∧ W'.cell? ⟨gb, q, none⟩ = some (.int .i64 (bq : Nat)) ∧ W'.cell? ⟨g, bk * 6 + 1, none⟩ = some (strv tk) ∧ W'.cell? ⟨g, bq * 6 + 1, none⟩ = some (strv tq) ∧ W'.cell? ⟨g, bk * 6 + 5, none⟩ = some (.int .i64 (plk : Nat))) [0, 1, 2, 3, 4, 5, 6, 7, 8, 9, 10, 11, 12, 13, 14, 15, 16, 17, 18, 19, 20, 21, 22, 23, 24, 25, 26, 27, 28, 29, 30, 31, 32] 0 (by intro _ _ d _ _ h; cases d <;> exact h) (by kernel_rfl) (by kernel_rfl) hS0 ?_
                            (iterate 33 (first | (refine takes_yes (v := ?_) rfl (by rfl) ?_ ?_; rotate_left; (focus ((intro w' hS'; (try dsimp only at hS'); go_simp; try (with_reducible rfl)); done)); (try simp only [Act.put, List.setIfInBounds_toArray, List.set_cons_zero, List.set_cons_succ])) | (refine takes_no rfl (by rfl) ?_; (try simp only [Act.put, List.setIfInBounds_toArray, List.set_cons_zero, List.set_cons_succ]))))
                            refine takes_nil ?_
                            refine wpAnyH_done (by kernel_rfl) ?_ _
                            have f5 : wr.drew.cell? ⟨g, bk * 6 + 5, none⟩ = some (.int .i64 (plk : Nat)) := HD5.out
                            have f0 : wr.drew.cell? ⟨gb, k, none⟩ = some (.int .i64 (bk : Nat)) := HD0.out
                            go_wp2_with fail
                            go_roundw
                            case rel => exact ⟨q + 1, _, _, rfl, rfl, by go_num, by omega, by
                              rw [HTAK.out, HSM.out, Bool.or_true, if_pos rfl, ← HU.out, ← HCU.out]
                              split
                              · exact (updF_twice _ _).symm
                              · rfl, HBQ.out.drew⟩
                            case measure => simp [intOf]; omega
                      · have jt : (tk == tq) = false := by simpa using htt
                        have HSM := Lib.hid (show sameT l bk bq = false by unfold sameT; rw [HT.out, HTQ.out]; simpa using fun e => htt e.symm)
                        clear htt
                        refine wp_region_takes (fun W' : World => W'.cell? ⟨gb, k, none⟩ = some (.int .i64 (bk : Nat)) ∧ W'.cell? ⟨gb, q, none⟩ = some (.int .i64 (bq : Nat)) ∧ W'.cell? ⟨g, bk * 6 + 1, none⟩ = some (strv tk) ∧ W'.cell? ⟨g, bq * 6 + 1, none⟩ = some (strv tq) ∧ W'.cell? ⟨g, bk * 6 + 5, none⟩ = some (.int .i64 (plk : Nat))) [0, 1, 2, 3, 4, 5, 6, 7, 8, 9, 10, 11, 12, 13, 14, 15, 16, 17, 18, 19, 20, 21, 22, 23, 24, 25, 26, 27, 28, 29, 30, 31, 32] 0 (by intro _ _ d _ _ h; cases d <;> exact h) (by kernel_rfl) (by kernel_rfl) hS0 ?_
                        (iterate 33 (first | (refine takes_yes (v := ?_) rfl (by rfl) ?_ ?_; rotate_left; (focus ((intro w' hS'; (try dsimp only at hS'); go_simp; try (with_reducible rfl)); done)); (try simp only [Act.put, List.setIfInBounds_toArray, List.set_cons_zero, List.set_cons_succ])) | (refine takes_no rfl (by rfl) ?_; (try simp only [Act.put, List.setIfInBounds_toArray, List.set_cons_zero, List.set_cons_succ]))))
                        refine takes_nil ?_
                        refine wpAnyH_done (by kernel_rfl) ?_ _
                        go_wp2_with fail
                        go_roundw
                        case rel => exact ⟨q + 1, ec, ac, rfl, rfl, by go_num, by omega, by rw [HTAK.out, HSM.out, Bool.or_false]; exact HCU.out, HBQ.out.drew⟩
                        case measure => simp [intOf]; omega
                    · have hqk' : q = k := by omega
                      subst hqk'
                      have hx := HTA.out.symm.trans HCU.out
                      cases hx
                      go_wp2_with fail
                      go_roundw
                      case rel => exact ⟨q + 1, e3, a3, _, rfl, rfl, rfl, by go_num, by omega, HTK2.out, HOT2.out, HBQ.out⟩
                      case measure => simp [intOf]; omega
            · have hkb' : k = nb := by omega
              subst hkb'
              have hx := HTW.out.symm.trans HTK.out
              have ho := HOB.out.symm.trans (show _ = o' by rw [← HOT.out, List.take_of_length_le (by rw [HNB.out]; omega)])
              cases hx
              subst ho
              go_wp2_with fail
              go_meet
              case rel => exact ⟨rfl, rfl, rfl, HB3.out.trans (HBK.out.mono HB3.out.size)⟩
        case rest =>
          obtain ⟨rfl, rfl, rfl, hbd⟩ := hcut
          have HBD := Lib.hid hbd
          clear hbd
          obtain ⟨z, hz⟩ : ∃ z, endL l i = z := ⟨_, rfl⟩
          have hzl : z < l.length := by
            rw [← hz]
            exact HWF.out i hil (by rw [← mkA_lt hil, HM.out]; exact HK40.out)
          have hzn : z < n := by rw [← HN.out]; exact hzl
          have hznI : (z : Int) < (n : Int) := by omega
          obtain ⟨-, -, -, -, -, f5⟩ := (HROW.out.below HBD.out).at_ z hzl
          obtain ⟨pz, hpz⟩ : ∃ p, (mkA l z).pl = p := ⟨_, rfl⟩
          rw [hpz] at f5
          have HZ := Lib.hid hz
          have HPZ := Lib.hid hpz
          have HSD := Lib.hid (show faultsGo l (i + 1) = if ob = true then (e2, a2) else updF (e2, a2) 6 pz by
            show stepD l i (faultsGo l i) = _
            rw [HST.out]
            unfold stepD
            dsimp only
            rw [HM.out, if_neg (not_not_intro HK40.out), HBB.out, HOB.out, HNB.out, HKA.out, HTW.out, HZ.out, HPZ.out])
          clear hz hpz
          go_wp2_with fail
          refine (HEN.out i (by omega) wc (HH.out.below HBD.out)).mono ?_
          rintro e4 w4 ⟨rfl, rfl⟩
          rw [HZ.out]
          cases ob with
          | true =>
            have HSD := Lib.hid (HSD.out.trans (if_pos rfl))
            go_wp2_with fail
            go_roundw
            case rel => exact ⟨i + 1, e2, a2, by go_num, rfl, rfl, by omega, HSD.out, HBD.out⟩
            case measure => simp [intOf]; omega
          | false =>
            have HSD := Lib.hid (HSD.out.trans (if_neg (by simp)))
            by_cases he0 : e2 = 0
            · have je : ((e2 : Int) == 0) = true := by simp [he0]
              have jen : (e2 == 0) = true := by simp [he0]
              have HU := Lib.hid (show updF (e2, a2) 6 pz = (6, pz) from if_pos (.inl he0))
              clear he0
              go_wp2_with fail
              go_roundw
              case rel => exact ⟨i + 1, _, _, by go_num, rfl, rfl, by omega, HSD.out.trans HU.out, HBD.out⟩
              case measure => simp [intOf]; omega
            · have je : ((e2 : Int) == 0) = false := by simp; omega
              have jen : (e2 == 0) = false := by simpa using he0
              by_cases hp : pz < a2
              · have jp : decide ((pz : Int) < (a2 : Int)) = true := by simp; omega
                have jpn : decide (pz < a2) = true := by simpa using hp
                have jpi : (pz : Int) < (a2 : Int) := by omega
                have HU := Lib.hid (show updF (e2, a2) 6 pz = (6, pz) from if_pos (.inr hp))
                clear he0
                go_wp2_with fail
                go_roundw
                case rel => exact ⟨i + 1, _, _, by go_num, rfl, rfl, by omega, HSD.out.trans HU.out, HBD.out⟩
                case measure => simp [intOf]; omega
              · have jp : decide ((pz : Int) < (a2 : Int)) = false := by simp; omega
                have jpn : decide (pz < a2) = false := by simpa using hp
                have jpi : ¬ (pz : Int) < (a2 : Int) := by omega
                have HU := Lib.hid (show updF (e2, a2) 6 pz = (e2, a2) from if_neg (fun h => by rcases h with h | h; exact he0 h; exact hp h))
                clear he0
                go_wp2_with fail
                go_roundw
                case rel => exact ⟨i + 1, _, _, by go_num, rfl, rfl, by omega, HSD.out.trans HU.out, HBD.out⟩
                case measure => simp [intOf]; omega
    · have hni : i = n := by omega
      subst hni
      have HF := Lib.hid (show faultsD l = (e, a) by unfold faultsD; rw [HN.out]; exact HST.out)
      go_wp2
      refine bodyPost_ret (v := .tuple #[.int .i64 (e : Nat), .int .i64 (a : Nat)]) ?_ rfl ?_
      · simp [results, Tryz.results34, go_sem]
      rw [HF.out]
      exact ⟨rfl, HBL.out⟩
end Go.Proofs.YtdelpialeajajaaGreatDoor

/- Walks of phrasesref's functions on code points. -/
namespace Go.Proofs.YtdelpialeajajaaGreatDoor
open Go Go.RowKit
set_option maxRecDepth 10000

/-- a code point? -/
def isPt (r : Int) : Bool := decide (0 ≤ r ∧ r ≤ 0x10FFFF ∧ (r < 0xD800 ∨ 0xDFFF < r))

set_option maxHeartbeats 400000 in
theorem point_any (r : Int) (w : World) :
    Calls Tryz.prog 32 #[.int .i32 r] w fun e w' => e = .returned (.bool (isPt r)) ∧ w = w' := by
  by_cases h : isPt r = true
  · have h' := h
    simp only [isPt, decide_eq_true_eq] at h'
    obtain ⟨h1, h2, h3⟩ := h'
    rcases h3 with h3 | h3
    all_goals
      go_enter Tryz.func32, Tryz.ntmps32
      go_wp2
      go_ret
      refine ⟨ret_val ?_, rfl⟩; simp [*]
  · have h' : isPt r = false := by simpa using h
    have h2 : r < 0 ∨ 0x10FFFF < r ∨ (0xD800 ≤ r ∧ r ≤ 0xDFFF) := by
      simp only [isPt, decide_eq_true_eq] at h; omega
    clear h
    rcases h2 with h2 | h2 | ⟨h2, h3⟩
    · go_enter Tryz.func32, Tryz.ntmps32
      go_wp2
      go_ret
      refine ⟨ret_val ?_, rfl⟩; simp [*]
    · go_enter Tryz.func32, Tryz.ntmps32
      have h0 : 0 ≤ r := by omega
      go_wp2
      go_ret
      refine ⟨ret_val ?_, rfl⟩; simp [*]
    · go_enter Tryz.func32, Tryz.ntmps32
      have h0 : 0 ≤ r := by omega
      have h1 : r ≤ 0x10FFFF := by omega
      go_wp2
      go_ret
      refine ⟨ret_val ?_, rfl⟩; simp [*]

/-- the value of the bytes that follow the first -/
def ptVal (l : List UInt8) (v : Nat) : Nat := l.foldl (fun v c => 64 * v + (c.toNat - 128)) v

def isCont (c : UInt8) : Bool := 128 ≤ c && c ≤ 191

/-- the least number that n bytes may spell -/
def least (n : Nat) : Int := if n = 4 then 65536 else if n = 3 then 2048 else if n = 2 then 128 else 0

/-- size, by what its first byte says: how many bytes, the first one's part -/
def sizeBy (l : List UInt8) (n v : Nat) : Nat :=
  if l.length < n then 0 else if (l.tail.take (n - 1)).all isCont = false then 0
  else if (ptVal (l.tail.take (n - 1)) v : Int) < least n ∨ isPt (ptVal (l.tail.take (n - 1)) v) = false then 0 else n

def sizeL (l : List UInt8) : Nat :=
  let c := (l.headD 0).toNat
  if 240 ≤ c ∧ c < 248 then sizeBy l 4 (c - 240)
  else if 224 ≤ c ∧ c < 240 then sizeBy l 3 (c - 224)
  else if 192 ≤ c ∧ c < 224 then sizeBy l 2 (c - 192)
  else if 128 ≤ c then 0
  else sizeBy l 1 c

theorem isCont_iff (c : UInt8) : isCont c = true ↔ (128 : Int) ≤ (c.toNat : Int) ∧ (c.toNat : Int) ≤ 191 := by
  simp [isCont, UInt8.le_iff_toNat_le]; omega

/-- the first k - 1 bytes behind the first -/
theorem tail_snoc (s : ByteArray) (k : Nat) (h1 : 1 ≤ k) (h : k < s.size) : s.data.toList.tail.take k = s.data.toList.tail.take (k - 1) ++ [s[k]] := by
  obtain ⟨j, rfl⟩ : ∃ j, k = j + 1 := ⟨k - 1, by omega⟩
  rw [List.take_succ_eq_append_getElem (by simp; omega)]
  simp [← getElem_toList s (j + 1) h]

theorem ptVal_snoc (l : List UInt8) (c : UInt8) (v : Nat) : ptVal (l ++ [c]) v = 64 * ptVal l v + (c.toNat - 128) := by simp [ptVal]

theorem ptVal_lt (l : List UInt8) : ∀ (v : Nat), l.all isCont = true → ptVal l v < 64 ^ l.length * (v + 1) := by
  induction l with
  | nil => intro v _; simp [ptVal]
  | cons a l ih =>
    intro v h
    simp only [List.all_cons, Bool.and_eq_true] at h
    have ha := (isCont_iff a).1 h.1
    have := ih (64 * v + (a.toNat - 128)) h.2
    have e : ptVal (a :: l) v = ptVal l (64 * v + (a.toNat - 128)) := rfl
    rw [e]
    refine Nat.lt_of_lt_of_le this ?_
    rw [List.length_cons, Nat.pow_succ, Nat.mul_assoc]
    exact Nat.mul_le_mul_left _ (by omega)

theorem sizeL_of {l : List UInt8} {n v : Nat} (H : (240 ≤ (l.headD 0).toNat ∧ (l.headD 0).toNat < 248 ∧ n = 4 ∧ v = (l.headD 0).toNat - 240) ∨
    (224 ≤ (l.headD 0).toNat ∧ (l.headD 0).toNat < 240 ∧ n = 3 ∧ v = (l.headD 0).toNat - 224) ∨
    (192 ≤ (l.headD 0).toNat ∧ (l.headD 0).toNat < 224 ∧ n = 2 ∧ v = (l.headD 0).toNat - 192) ∨
    ((l.headD 0).toNat < 128 ∧ n = 1 ∧ v = (l.headD 0).toNat)) : sizeL l = sizeBy l n v := by
  unfold sizeL
  rcases H with ⟨h1, h2, rfl, rfl⟩ | ⟨h1, h2, rfl, rfl⟩ | ⟨h1, h2, rfl, rfl⟩ | ⟨h1, rfl, rfl⟩
  · rw [if_pos ⟨h1, h2⟩]
  · rw [if_neg (by omega), if_pos ⟨h1, h2⟩]
  · rw [if_neg (by omega), if_neg (by omega), if_pos ⟨h1, h2⟩]
  · rw [if_neg (by omega), if_neg (by omega), if_neg (by omega), if_neg (by omega)]

theorem sizeBy_short {l : List UInt8} {n v : Nat} (h : l.length < n) : sizeBy l n v = 0 := by rw [sizeBy, if_pos h]
theorem sizeBy_cont {l : List UInt8} {n v : Nat} (h : (l.tail.take (n - 1)).all isCont = false) : sizeBy l n v = 0 := by
  unfold sizeBy; rw [if_pos h]; simp
theorem sizeBy_end {l : List UInt8} {n v : Nat} (h0 : ¬ l.length < n) (h : (l.tail.take (n - 1)).all isCont = true) :
    sizeBy l n v = if (ptVal (l.tail.take (n - 1)) v : Int) < least n ∨ isPt (ptVal (l.tail.take (n - 1)) v) = false then 0 else n := by
  unfold sizeBy; rw [if_neg h0, if_neg (by rw [h]; simp)]

theorem cont_false_of (s : ByteArray) (k n : Nat) (h1 : 1 ≤ k) (hk : k < n) (hn : n ≤ s.size) (hc : isCont s[k] = false) : (s.data.toList.tail.take (n - 1)).all isCont = false := by
  rw [List.all_eq_false]
  refine ⟨s[k], ?_, by simp [hc]⟩
  rw [← getElem_toList s k (by omega), List.mem_take_iff_getElem]
  refine ⟨k - 1, by simp; omega, ?_⟩
  simp only [List.getElem_tail]
  congr 1; omega

end Go.Proofs.YtdelpialeajajaaGreatDoor

/- The walk of phrasesref.size. -/
namespace Go.Proofs.YtdelpialeajajaaGreatDoor
open Go Go.RowKit
set_option maxRecDepth 10000

set_option maxRecDepth 100000 in
set_option maxHeartbeats 1000000 in
theorem size_any (s : ByteArray) (w : World) (h0 : 0 < s.size) (hs : s.size ≤ 2000000000) :
    Calls Tryz.prog 40 #[.string s] w fun e w' => e = .returned (.int .i64 (sizeL s.data.toList)) ∧ w = w' := by
  have hh := headD_eq s h0
  have hb : s[0].toNat < 256 := UInt8.toNat_lt _
  by_cases hbad : 128 ≤ s[0].toNat ∧ (s[0].toNat < 192 ∨ 248 ≤ s[0].toNat)
  · have hz : sizeL s.data.toList = 0 := by
      unfold sizeL; rw [hh, if_neg (by omega), if_neg (by omega), if_neg (by omega), if_pos (by omega)]
    have Hz := Lib.hid hz
    have Hh := Lib.hid hh
    clear hz hh
    obtain ⟨hb1, hb2⟩ := hbad
    rcases hb2 with hb2 | hb2
    all_goals
      go_enter Tryz.func40, Tryz.ntmps40
      go_wp2
      go_ret
      rw [Hz.out]
      exact ⟨rfl, rfl⟩
  · obtain ⟨n, v, H⟩ : ∃ n v, (240 ≤ s[0].toNat ∧ s[0].toNat < 248 ∧ n = 4 ∧ v = s[0].toNat - 240) ∨
      (224 ≤ s[0].toNat ∧ s[0].toNat < 240 ∧ n = 3 ∧ v = s[0].toNat - 224) ∨
      (192 ≤ s[0].toNat ∧ s[0].toNat < 224 ∧ n = 2 ∧ v = s[0].toNat - 192) ∨
      (s[0].toNat < 128 ∧ n = 1 ∧ v = s[0].toNat) := by
      by_cases c1 : 240 ≤ s[0].toNat
      · exact ⟨_, _, .inl ⟨by omega, by omega, rfl, rfl⟩⟩
      by_cases c2 : 224 ≤ s[0].toNat
      · exact ⟨_, _, .inr (.inl ⟨by omega, by omega, rfl, rfl⟩)⟩
      by_cases c3 : 192 ≤ s[0].toNat
      · exact ⟨_, _, .inr (.inr (.inl ⟨by omega, by omega, rfl, rfl⟩))⟩
      · exact ⟨_, _, .inr (.inr (.inr ⟨by omega, rfl, rfl⟩))⟩
    have hz : sizeL s.data.toList = sizeBy s.data.toList n v := sizeL_of (by rw [hh]; exact H)
    have Hz := Lib.hid hz
    have Hh := Lib.hid hh
    clear hz hh hbad
    have hn : 1 ≤ n ∧ n ≤ 4 ∧ v ≤ 127 := by omega
    rcases H with ⟨h1, h2, rfl, hv⟩ | ⟨h1, h2, rfl, hv⟩ | ⟨h1, h2, rfl, hv⟩ | ⟨h1, rfl, hv⟩
    · have hv' : (v : Int) = (s[0].toNat : Int) - 240 := by omega
      have hvlt : v ≤ 127 := hn.2.2
      have i1 : (240 : Int) ≤ (s[0].toNat : Int) := by omega
      have i2 : (s[0].toNat : Int) < 248 := by omega
      have Hv := Lib.hid hv'
      clear hv hv' hn
      by_cases hsh : s.size < 4
      · have hz2 := Lib.hid (sizeBy_short (l := s.data.toList) (n := 4) (v := v) (by simpa using hsh))
        go_enter Tryz.func40, Tryz.ntmps40
        go_wp2
        go_ret
        rw [Hz.out, hz2.out]
        exact ⟨rfl, rfl⟩
      · have i3 : (4 : Int) ≤ (s.size : Int) := by omega
        go_enter Tryz.func40, Tryz.ntmps40
        go_wp2
        go_loop [5, 7] (fun x i => ∃ k : Nat, 1 ≤ k ∧ k ≤ 4 ∧ i = .int .i64 k ∧ x = .int .i64 (ptVal (s.data.toList.tail.take (k - 1)) v) ∧ (s.data.toList.tail.take (k - 1)).all isCont = true) (fun _ i => 4 - (intOf i).toNat)
        case atStart => exact ⟨1, by omega, by omega, rfl, by rw [← Hv.out]; rfl, by simp⟩
        case round =>
          obtain ⟨k, hk1, hk2, rfl, rfl, hall⟩ := hrel
          have hbd := ptVal_lt _ v hall
          have hlen : (s.data.toList.tail.take (k - 1)).length ≤ 3 := by simp; omega
          have hbd2 : ptVal (s.data.toList.tail.take (k - 1)) v ≤ 64 ^ 3 * 128 := Nat.le_of_lt (Nat.lt_of_lt_of_le hbd (Nat.mul_le_mul (Nat.pow_le_pow_right (by omega) hlen) (by omega)))
          clear hbd hlen
          by_cases hlt : k < 4
          · by_cases hc : isCont s[k] = true
            · have hc' := (isCont_iff _).1 hc
              have hs1 := tail_snoc s k hk1 (by omega)
              have hall' := all_snoc hall hc
              have hpv := ptVal_snoc (s.data.toList.tail.take (k - 1)) s[k] v
              rw [← hs1] at hall' hpv
              have Hall' := Lib.hid hall'
              have Hpv := Lib.hid hpv
              clear hall' hpv hs1 hall hc
              go_wp2
              go_round
              case rel => exact ⟨k + 1, by omega, by omega, by go_num, by rw [show k + 1 - 1 = k from rfl, Hpv.out]; go_num, Hall'.out⟩
              case measure => simp [intOf]; omega
            · have hc' : isCont s[k] = false := by simpa using hc
              have hz2 := Lib.hid (sizeBy_cont (v := v) (cont_false_of s k 4 hk1 hlt (by omega) hc'))
              have hc2 : (s[k].toNat : Int) < 128 ∨ (191 : Int) < s[k].toNat := by
                have := isCont_iff s[k]; rw [hc'] at this; simp at this; omega
              clear hc hc' hall
              rcases hc2 with hc2 | hc2
              all_goals
                go_wp2
                go_ret
                rw [Hz.out, hz2.out]
                exact ⟨rfl, rfl⟩
          · obtain rfl : k = 4 := by omega
            have hz2 := Lib.hid (sizeBy_end (n := 4) (v := v) (by simp; omega) hall)
            have hle : least 4 = least 4 := rfl
            generalize ptVal (s.data.toList.tail.take (4 - 1)) v = q at *
            have hq : (q : Int) ≤ 33554432 := by omega
            clear hbd2 hall hle
            go_wp2_with fail
            refine (point_any _ _).mono ?_
            rintro e w' ⟨rfl, rfl⟩
            by_cases hle : (q : Int) < 65536
            · have hz3 : (if (q : Int) < least 4 ∨ isPt q = false then 0 else 4) = 0 := if_pos (.inl hle)
              have Hz3 := Lib.hid hz3
              clear hz3
              go_wp2
              go_ret
              rw [Hz.out, hz2.out, Hz3.out]
              exact ⟨rfl, rfl⟩
            · have hleb : decide ((q : Int) < 65536) = false := by simpa using hle
              have Hle := Lib.hid hle
              clear hle
              by_cases hp : isPt q = true
              · have hz3 : (if (q : Int) < least 4 ∨ isPt q = false then 0 else 4) = 4 := if_neg (by rw [hp]; intro h; rcases h with h | h; exact Hle.out h; cases h)
                have Hz3 := Lib.hid hz3
                clear hz3
                go_wp2
                go_ret
                rw [Hz.out, hz2.out, Hz3.out]
                exact ⟨rfl, rfl⟩
              · have hp' : isPt q = false := by simpa using hp
                have hz3 : (if (q : Int) < least 4 ∨ isPt q = false then 0 else 4) = 0 := if_pos (.inr hp')
                have Hz3 := Lib.hid hz3
                clear hz3 hp
                go_wp2
                go_ret
                rw [Hz.out, hz2.out, Hz3.out]
                exact ⟨rfl, rfl⟩
    · have hv' : (v : Int) = (s[0].toNat : Int) - 224 := by omega
      have hvlt : v ≤ 127 := hn.2.2
      have i1 : (224 : Int) ≤ (s[0].toNat : Int) := by omega
      have i2 : (s[0].toNat : Int) < 240 := by omega
      have Hv := Lib.hid hv'
      clear hv hv' hn
      by_cases hsh : s.size < 3
      · have hz2 := Lib.hid (sizeBy_short (l := s.data.toList) (n := 3) (v := v) (by simpa using hsh))
        go_enter Tryz.func40, Tryz.ntmps40
        go_wp2
        go_ret
        rw [Hz.out, hz2.out]
        exact ⟨rfl, rfl⟩
      · have i3 : (3 : Int) ≤ (s.size : Int) := by omega
        go_enter Tryz.func40, Tryz.ntmps40
        go_wp2
        go_loop [5, 7] (fun x i => ∃ k : Nat, 1 ≤ k ∧ k ≤ 3 ∧ i = .int .i64 k ∧ x = .int .i64 (ptVal (s.data.toList.tail.take (k - 1)) v) ∧ (s.data.toList.tail.take (k - 1)).all isCont = true) (fun _ i => 3 - (intOf i).toNat)
        case atStart => exact ⟨1, by omega, by omega, rfl, by rw [← Hv.out]; rfl, by simp⟩
        case round =>
          obtain ⟨k, hk1, hk2, rfl, rfl, hall⟩ := hrel
          have hbd := ptVal_lt _ v hall
          have hlen : (s.data.toList.tail.take (k - 1)).length ≤ 3 := by simp; omega
          have hbd2 : ptVal (s.data.toList.tail.take (k - 1)) v ≤ 64 ^ 3 * 128 := Nat.le_of_lt (Nat.lt_of_lt_of_le hbd (Nat.mul_le_mul (Nat.pow_le_pow_right (by omega) hlen) (by omega)))
          clear hbd hlen
          by_cases hlt : k < 3
          · by_cases hc : isCont s[k] = true
            · have hc' := (isCont_iff _).1 hc
              have hs1 := tail_snoc s k hk1 (by omega)
              have hall' := all_snoc hall hc
              have hpv := ptVal_snoc (s.data.toList.tail.take (k - 1)) s[k] v
              rw [← hs1] at hall' hpv
              have Hall' := Lib.hid hall'
              have Hpv := Lib.hid hpv
              clear hall' hpv hs1 hall hc
              go_wp2
              go_round
              case rel => exact ⟨k + 1, by omega, by omega, by go_num, by rw [show k + 1 - 1 = k from rfl, Hpv.out]; go_num, Hall'.out⟩
              case measure => simp [intOf]; omega
            · have hc' : isCont s[k] = false := by simpa using hc
              have hz2 := Lib.hid (sizeBy_cont (v := v) (cont_false_of s k 3 hk1 hlt (by omega) hc'))
              have hc2 : (s[k].toNat : Int) < 128 ∨ (191 : Int) < s[k].toNat := by
                have := isCont_iff s[k]; rw [hc'] at this; simp at this; omega
              clear hc hc' hall
              rcases hc2 with hc2 | hc2
              all_goals
                go_wp2
                go_ret
                rw [Hz.out, hz2.out]
                exact ⟨rfl, rfl⟩
          · obtain rfl : k = 3 := by omega
            have hz2 := Lib.hid (sizeBy_end (n := 3) (v := v) (by simp; omega) hall)
            have hle : least 3 = least 3 := rfl
            generalize ptVal (s.data.toList.tail.take (3 - 1)) v = q at *
            have hq : (q : Int) ≤ 33554432 := by omega
            clear hbd2 hall hle
            go_wp2_with fail
            refine (point_any _ _).mono ?_
            rintro e w' ⟨rfl, rfl⟩
            by_cases hle : (q : Int) < 2048
            · have hz3 : (if (q : Int) < least 3 ∨ isPt q = false then 0 else 3) = 0 := if_pos (.inl hle)
              have Hz3 := Lib.hid hz3
              clear hz3
              go_wp2
              go_ret
              rw [Hz.out, hz2.out, Hz3.out]
              exact ⟨rfl, rfl⟩
            · have hleb : decide ((q : Int) < 2048) = false := by simpa using hle
              have Hle := Lib.hid hle
              clear hle
              by_cases hp : isPt q = true
              · have hz3 : (if (q : Int) < least 3 ∨ isPt q = false then 0 else 3) = 3 := if_neg (by rw [hp]; intro h; rcases h with h | h; exact Hle.out h; cases h)
                have Hz3 := Lib.hid hz3
                clear hz3
                go_wp2
                go_ret
                rw [Hz.out, hz2.out, Hz3.out]
                exact ⟨rfl, rfl⟩
              · have hp' : isPt q = false := by simpa using hp
                have hz3 : (if (q : Int) < least 3 ∨ isPt q = false then 0 else 3) = 0 := if_pos (.inr hp')
                have Hz3 := Lib.hid hz3
                clear hz3 hp
                go_wp2
                go_ret
                rw [Hz.out, hz2.out, Hz3.out]
                exact ⟨rfl, rfl⟩
    · have hv' : (v : Int) = (s[0].toNat : Int) - 192 := by omega
      have hvlt : v ≤ 127 := hn.2.2
      have i1 : (192 : Int) ≤ (s[0].toNat : Int) := by omega
      have i2 : (s[0].toNat : Int) < 224 := by omega
      have Hv := Lib.hid hv'
      clear hv hv' hn
      by_cases hsh : s.size < 2
      · have hz2 := Lib.hid (sizeBy_short (l := s.data.toList) (n := 2) (v := v) (by simpa using hsh))
        go_enter Tryz.func40, Tryz.ntmps40
        go_wp2
        go_ret
        rw [Hz.out, hz2.out]
        exact ⟨rfl, rfl⟩
      · have i3 : (2 : Int) ≤ (s.size : Int) := by omega
        go_enter Tryz.func40, Tryz.ntmps40
        go_wp2
        go_loop [5, 7] (fun x i => ∃ k : Nat, 1 ≤ k ∧ k ≤ 2 ∧ i = .int .i64 k ∧ x = .int .i64 (ptVal (s.data.toList.tail.take (k - 1)) v) ∧ (s.data.toList.tail.take (k - 1)).all isCont = true) (fun _ i => 2 - (intOf i).toNat)
        case atStart => exact ⟨1, by omega, by omega, rfl, by rw [← Hv.out]; rfl, by simp⟩
        case round =>
          obtain ⟨k, hk1, hk2, rfl, rfl, hall⟩ := hrel
          have hbd := ptVal_lt _ v hall
          have hlen : (s.data.toList.tail.take (k - 1)).length ≤ 3 := by simp; omega
          have hbd2 : ptVal (s.data.toList.tail.take (k - 1)) v ≤ 64 ^ 3 * 128 := Nat.le_of_lt (Nat.lt_of_lt_of_le hbd (Nat.mul_le_mul (Nat.pow_le_pow_right (by omega) hlen) (by omega)))
          clear hbd hlen
          by_cases hlt : k < 2
          · by_cases hc : isCont s[k] = true
            · have hc' := (isCont_iff _).1 hc
              have hs1 := tail_snoc s k hk1 (by omega)
              have hall' := all_snoc hall hc
              have hpv := ptVal_snoc (s.data.toList.tail.take (k - 1)) s[k] v
              rw [← hs1] at hall' hpv
              have Hall' := Lib.hid hall'
              have Hpv := Lib.hid hpv
              clear hall' hpv hs1 hall hc
              go_wp2
              go_round
              case rel => exact ⟨k + 1, by omega, by omega, by go_num, by rw [show k + 1 - 1 = k from rfl, Hpv.out]; go_num, Hall'.out⟩
              case measure => simp [intOf]; omega
            · have hc' : isCont s[k] = false := by simpa using hc
              have hz2 := Lib.hid (sizeBy_cont (v := v) (cont_false_of s k 2 hk1 hlt (by omega) hc'))
              have hc2 : (s[k].toNat : Int) < 128 ∨ (191 : Int) < s[k].toNat := by
                have := isCont_iff s[k]; rw [hc'] at this; simp at this; omega
              clear hc hc' hall
              rcases hc2 with hc2 | hc2
              all_goals
                go_wp2
                go_ret
                rw [Hz.out, hz2.out]
                exact ⟨rfl, rfl⟩
          · obtain rfl : k = 2 := by omega
            have hz2 := Lib.hid (sizeBy_end (n := 2) (v := v) (by simp; omega) hall)
            have hle : least 2 = least 2 := rfl
            generalize ptVal (s.data.toList.tail.take (2 - 1)) v = q at *
            have hq : (q : Int) ≤ 33554432 := by omega
            clear hbd2 hall hle
            go_wp2_with fail
            refine (point_any _ _).mono ?_
            rintro e w' ⟨rfl, rfl⟩
            by_cases hle : (q : Int) < 128
            · have hz3 : (if (q : Int) < least 2 ∨ isPt q = false then 0 else 2) = 0 := if_pos (.inl hle)
              have Hz3 := Lib.hid hz3
              clear hz3
              go_wp2
              go_ret
              rw [Hz.out, hz2.out, Hz3.out]
              exact ⟨rfl, rfl⟩
            · have hleb : decide ((q : Int) < 128) = false := by simpa using hle
              have Hle := Lib.hid hle
              clear hle
              by_cases hp : isPt q = true
              · have hz3 : (if (q : Int) < least 2 ∨ isPt q = false then 0 else 2) = 2 := if_neg (by rw [hp]; intro h; rcases h with h | h; exact Hle.out h; cases h)
                have Hz3 := Lib.hid hz3
                clear hz3
                go_wp2
                go_ret
                rw [Hz.out, hz2.out, Hz3.out]
                exact ⟨rfl, rfl⟩
              · have hp' : isPt q = false := by simpa using hp
                have hz3 : (if (q : Int) < least 2 ∨ isPt q = false then 0 else 2) = 0 := if_pos (.inr hp')
                have Hz3 := Lib.hid hz3
                clear hz3 hp
                go_wp2
                go_ret
                rw [Hz.out, hz2.out, Hz3.out]
                exact ⟨rfl, rfl⟩
    · have hz2 : sizeBy s.data.toList 1 v = 1 := by
        rw [sizeBy_end (by rw [size_toList]; omega) (by simp)]
        refine if_neg ?_
        have e1 : ptVal (s.data.toList.tail.take (1 - 1)) v = v := by simp [ptVal]
        rw [e1]
        have e2 : least 1 = 0 := rfl
        have e3 : isPt (v : Int) = true := by simp only [isPt, decide_eq_true_eq]; omega
        rw [e2, e3]
        intro h
        rcases h with h | h
        · omega
        · cases h
      have Hz2 := Lib.hid hz2
      have hp : isPt ((s[0].toNat : Int)) = true := by simp [isPt]; omega
      have i2 : (s[0].toNat : Int) < 128 := by omega
      have i3 : ¬ ((s.size : Int) < 1) := by omega
      have Hv := Lib.hid hv
      clear hz2 hv hn
      go_enter Tryz.func40, Tryz.ntmps40
      go_wp2
      refine wp_loop_rounds 1 ?_
      rw [rounds_succ]
      go_wp2_with fail
      refine (point_any _ _).mono ?_
      rintro e w' ⟨rfl, rfl⟩
      go_wp2
      go_ret
      rw [Hz.out, Hz2.out]
      exact ⟨rfl, rfl⟩
end Go.Proofs.YtdelpialeajajaaGreatDoor

/- phrasesref.points: a text's code points. -/
namespace Go.Proofs.YtdelpialeajajaaGreatDoor
open Go Go.RowKit

theorem sizeBy_le (l : List UInt8) (n v : Nat) : sizeBy l n v ≤ l.length ∧ sizeBy l n v ≤ n := by
  unfold sizeBy
  repeat' split
  all_goals omega

theorem sizeL_le (l : List UInt8) : sizeL l ≤ l.length ∧ sizeL l ≤ 4 := by
  have h := fun n v => sizeBy_le l n v
  unfold sizeL
  simp only []
  split
  · exact h 4 _
  split
  · exact ⟨(h 3 _).1, by have := (h 3 ((l.headD 0).toNat - 224)).2; omega⟩
  split
  · exact ⟨(h 2 _).1, by have := (h 2 ((l.headD 0).toNat - 192)).2; omega⟩
  split
  · omega
  · exact ⟨(h 1 _).1, by have := (h 1 ((l.headD 0).toNat)).2; omega⟩

/-- a text's code points, each as its bytes, and how many bytes they are -/
def ptsL (l : List UInt8) : List (List UInt8) × Nat :=
  if h : l = [] ∨ sizeL l = 0 then ([], 0) else
    let r := ptsL (l.drop (sizeL l))
    (l.take (sizeL l) :: r.1, sizeL l + r.2)
  termination_by l.length
  decreasing_by
    simp only [not_or] at h
    have := List.length_pos_iff.2 h.1
    simp; omega

theorem ptsL_nil : ptsL [] = ([], 0) := by rw [ptsL]; simp
theorem ptsL_bad {l : List UInt8} (h : sizeL l = 0) : ptsL l = ([], 0) := by rw [ptsL]; simp [h]
theorem ptsL_step {l : List UInt8} (h0 : l ≠ []) (h : sizeL l ≠ 0) : ptsL l = (l.take (sizeL l) :: (ptsL (l.drop (sizeL l))).1, sizeL l + (ptsL (l.drop (sizeL l))).2) := by
  rw [ptsL, dif_neg (by simp [h0, h])]

def PointsPost (l : List UInt8) (w : World) (e : Ending) (w' : World) : Prop :=
  ∃ v, e = .returned (.tuple #[v, .int .i64 (ptsL l).2]) ∧ w'.ownsRow w.heap.size 9 1 v (ptsL l).1.length ((ptsL l).1.map strv) ∧ Below w.heap.size w w'

/-- the loop's relation -/
def PtsRel (l : List UInt8) (w : World) (v i : Value) (wr : World) : Prop :=
  ∃ (k : Nat) (acc : List (List UInt8)), k ≤ l.length ∧ i = .int .i64 k ∧ wr.ownsRow w.heap.size 9 1 v acc.length (acc.map strv) ∧ Below w.heap.size w wr ∧
    acc.length ≤ k ∧ (ptsL l).1 = acc ++ (ptsL (l.drop k)).1 ∧ (ptsL l).2 = k + (ptsL (l.drop k)).2

theorem ptsRel_step {l : List UInt8} {w : World} {k n : Nat} {acc : List (List UInt8)} {v' : Value} {w1 : World} (hk : k < l.length) (hn : sizeL (l.drop k) = n) (h0 : n ≠ 0)
    (hown : w1.ownsRow w.heap.size 9 1 v' (acc.length + 1) (acc.map strv ++ [strv ((l.drop k).take n)])) (hb : Below w.heap.size w w1)
    (hl : acc.length ≤ k) (h1 : (ptsL l).1 = acc ++ (ptsL (l.drop k)).1) (h2 : (ptsL l).2 = k + (ptsL (l.drop k)).2) : PtsRel l w v' (.int .i64 ((k : Int) + n)) w1 := by
  have hne : l.drop k ≠ [] := by simp; omega
  have hle := (sizeL_le (l.drop k)).1
  rw [hn] at hle
  simp only [List.length_drop] at hle
  rw [ptsL_step hne (by omega), hn, List.drop_drop] at h1 h2
  refine ⟨k + n, acc ++ [(l.drop k).take n], by omega, by go_num, ?_, hb, ?_, ?_, ?_⟩
  · simpa using hown
  · simp; omega
  · rw [h1]; simp
  · rw [h2]; simp; omega

set_option maxHeartbeats 800000 in
theorem points_any (s : ByteArray) (w : World) (hs : s.size ≤ 1000000000) :
    Calls Tryz.prog 26 #[.string s] w (PointsPost s.data.toList w) := by
  go_enter Tryz.func26, Tryz.ntmps26
  go_wp2
  go_loopw [4, 5] (fun v i wr => PtsRel s.data.toList w v i wr) (fun _ i _ => s.size - (intOf i).toNat)
  case atStart => exact ⟨0, [], by omega, rfl, World.ownsRow_nil _ _ _ _, Below.refl _ _, by simp, by simp, by simp⟩
  case round =>
    obtain ⟨k, acc, hk, rfl, hown, hb, hl, h1, h2⟩ := hrel
    rw [size_toList] at hk
    have H1 := Lib.hid h1
    have H2 := Lib.hid h2
    clear h1 h2
    by_cases hlt : k < s.size
    · have e1 : (s.extract k s.size).data.toList = s.data.toList.drop k := by rw [extract_drop]
      have hle := sizeL_le (s.data.toList.drop k)
      simp only [List.length_drop, size_toList] at hle
      obtain ⟨n, hn⟩ : ∃ n, sizeL (s.data.toList.drop k) = n := ⟨_, rfl⟩
      rw [hn] at hle
      go_wp2_with fail
      refine (size_any _ _ (by simp; omega) (by simp; omega)).mono ?_
      rw [e1, hn]
      have Hn := Lib.hid hn
      clear hn e1
      rintro e w' ⟨rfl, rfl⟩
      by_cases h0 : n = 0
      · subst h0
        go_wp2
        go_ret2
        have hz := ptsL_bad Hn.out
        refine ⟨_, ?_, (by rw [H1.out, hz]; simpa using hown), hb⟩
        rw [H2.out, hz]
        rfl
      · have h0' : ((n : Int) == 0) = false := by simpa using h0
        go_wp2_with (at_builtin; refine app_own elem_strs rfl _ _ rfl w.heap.size _ _ _ rfl (hown.alloc _) ⟨wr.heap.size, 0, none⟩ 1 1 [.string (s.extract k (k + n))] rfl rfl ?c1 ?c2 ?c3 ?c4 ?_)
        case c1 => exact cells_one (by simp)
        case c2 => intro u hu; simp at hu; subst hu; rfl
        case c3 => omega
        case c4 => have := hb.size; simp; omega
        intro v' w1 hown' hgrow
        go_wp2
        go_roundw
        case rel =>
          have e2 : s.extract k (k + n) = ⟨((s.data.toList.drop k).take n).toArray⟩ := by rw [extract_eq, Nat.add_sub_cancel_left]
          rw [e2] at hown'
          exact ptsRel_step (by rw [size_toList]; exact hlt) Hn.out h0 hown' ((hb.alloc hb.size _).grown hgrow (by have := hb.size; simp; omega) (fun q hq => (hown.lt q hq).1)) hl H1.out H2.out
        case measure => simp [intOf]; omega
    · go_wp2
      go_ret2
      have hz : ptsL (s.data.toList.drop k) = ([], 0) := by rw [List.drop_of_length_le (by simp; omega), ptsL_nil]
      refine ⟨_, ?_, (by rw [H1.out, hz]; simpa using hown), hb⟩
      rw [H2.out, hz]
      rfl
end Go.Proofs.YtdelpialeajajaaGreatDoor

/- The document's reader of patterns: Read. -/
namespace Go.Proofs.YtdelpialeajajaaGreatDoor
open Go Go.RowKit
set_option maxRecDepth 10000

theorem markGo_ok (s : ByteArray) : ∀ (n : Nat) (x : Sc), OkS x → OkS (markGo s n x) ∧ (x.i ≤ s.size → ∀ (_ : ∀ y, OkS y → y.i ≤ s.size → y.err = 0 → y.i < s.size → (oneS s y).i ≤ s.size), (markGo s n x).i ≤ s.size)
  | 0, x, h => ⟨h, fun hi _ => hi⟩
  | n + 1, x, h => by
    rw [markGo]
    split
    · next hc =>
      have h1 := ok_one s x h hc.1 hc.2
      have ih := markGo_ok s n (oneS s x) h1.1
      exact ⟨ih.1, fun hi hall => ih.2 (hall x h hi hc.1 hc.2) hall⟩
    · exact ⟨h, fun hi _ => hi⟩
theorem marksS_out (s : ByteArray) : (marksS s).out = (markGo s (s.size + 1) startS).out := by
  unfold marksS
  dsimp only
  split
  · exact (faultS_out _ _ _).1
  · rfl
theorem marks_kinds (s : ByteArray) : ∀ m ∈ (marksS s).out, m.kind < 256 := by
  rw [marksS_out]
  have h := (markGo_ok s (s.size + 1) startS ⟨Nat.zero_le _, Nat.zero_le _, fun m hm => by cases hm⟩).1
  exact fun m hm => (h.m m hm).1

/-- what a pattern is read as, marks, a fault, its place in code points -/
def firstD (s : ByteArray) : Nat × Nat := if (marksS s).err = 0 then faultsD (marksS s).out else ((marksS s).err, (marksS s).place)
def countD (s : ByteArray) (a : Nat) : Nat := (ptsL (s.data.toList.take a)).1.length
def readD (s : ByteArray) : List Mk × Nat × Nat :=
  if 1000 < s.size then ([], 1, 0)
  else if (ptsL s.data.toList).2 < s.size then ([], 2, (ptsL s.data.toList).1.length)
  else if (firstD s).1 ≠ 0 then ([], (firstD s).1, countD s (firstD s).2)
  else ((marksS s).out, 0, 0)

/-- what the reader's marks are such as -/
structure RdOk (s : ByteArray) : Prop where
  wf : (marksS s).err = 0 → ∀ i (h : i < (marksS s).out.length), (marksS s).out[i].kind = 40 → endL (marksS s).out i < (marksS s).out.length
  pl : (firstD s).1 ≠ 0 → (firstD s).2 ≤ s.size
  len : (marksS s).err = 0 → (marksS s).out.length ≤ 1000000

def ReadDQ (s : ByteArray) (w : World) (e : Ending) (w' : World) : Prop :=
  ∃ v, e = .returned (.tuple #[v, .int .i64 ((readD s).2.1 : Nat), .int .i64 ((readD s).2.2 : Nat)]) ∧ MarksAt w' v (readD s).1 ∧ Below w.heap.size w w'

theorem marks_nil (w : World) : MarksAt w (.slice none 0 0) [] := ⟨⟨none, 0, rfl⟩, fun h => by cases h⟩

set_option maxHeartbeats 8000000 in
theorem readD_any (s : ByteArray) (w : World) (hs : s.size ≤ 1000000000) (hok : 1000 < s.size ∨ (ptsL s.data.toList).2 < s.size ∨ RdOk s) : Calls Tryz.prog 22 #[.string s] w (ReadDQ s w) := by
  have HOK := Lib.hid hok
  clear hok
  by_cases hl : 1000 < s.size
  · have HR := Lib.hid (show readD s = ([], 1, 0) from if_pos hl)
    have j1 : (1000 : Int) < (s.size : Int) := by omega
    go_enter Tryz.func22, Tryz.ntmps22
    go_wp2
    refine bodyPost_ret (v := .tuple #[.slice none 0 0, .int .i64 1, .int .i64 0]) ?_ rfl ?_
    · simp [results, Tryz.results22, go_sem]
    unfold ReadDQ
    rw [HR.out]
    exact ⟨_, rfl, marks_nil _, Below.refl _ _⟩
  have j1 : ¬ (1000 : Int) < (s.size : Int) := by omega
  have HL := Lib.hid hl
  have HP := Lib.hid (points_any s w hs)
  obtain ⟨⟨ps, np⟩, hps⟩ : ∃ x, ptsL s.data.toList = x := ⟨_, rfl⟩
  have HP := Lib.hid (show Calls Tryz.prog 26 #[.string s] w fun e w' => ∃ v, e = .returned (.tuple #[v, .int .i64 (np : Nat)]) ∧ w'.ownsRow w.heap.size 9 1 v ps.length (ps.map strv) ∧ Below w.heap.size w w' from HP.out.mono (by
    rintro e w' ⟨v, rfl, h1, h2⟩
    rw [hps] at h1 ⊢
    exact ⟨v, rfl, h1, h2⟩))
  have HPS := Lib.hid hps
  clear hps hl
  go_enter Tryz.func22, Tryz.ntmps22
  go_wp2_with fail
  refine HP.out.mono ?_
  rintro e w1 ⟨u, rfl, hu, hb1⟩
  obtain ⟨npl, hnp⟩ : ∃ n, ps.length = n := ⟨_, rfl⟩
  rw [hnp] at hu
  have HNP := Lib.hid hnp
  obtain ⟨ua, uc, rfl⟩ := own_slice hu
  have HB1 := Lib.hid hb1
  clear hu hb1 hnp
  by_cases hn : np < s.size
  · have HR := Lib.hid (show readD s = ([], 2, npl) by unfold readD; rw [if_neg HL.out, HPS.out, if_pos hn, HNP.out])
    have j2 : (np : Int) < (s.size : Int) := by omega
    have j2d : decide (np < s.size) = true := by simpa using hn
    go_wp2
    refine bodyPost_ret (v := .tuple #[.slice none 0 0, .int .i64 2, .int .i64 (npl : Nat)]) ?_ rfl ?_
    · simp [results, Tryz.results22, go_sem]
    unfold ReadDQ
    rw [HR.out]
    exact ⟨_, rfl, marks_nil _, HB1.out⟩
  have j2 : ¬ (np : Int) < (s.size : Int) := by omega
  have hrd : RdOk s := by
    rcases HOK.out with h | h | h
    · exact absurd h HL.out
    · rw [HPS.out] at h
      exact absurd h hn
    · exact h
  have HRD := Lib.hid hrd
  have HRE := Lib.hid (show readD s = if (firstD s).1 ≠ 0 then ([], (firstD s).1, countD s (firstD s).2) else ((marksS s).out, 0, 0) by unfold readD; rw [if_neg HL.out, HPS.out, if_neg hn])
  have HM := Lib.hid (marks_any s w1 (by have := HL.out; omega))
  obtain ⟨M, hM⟩ : ∃ M, marksS s = M := ⟨_, rfl⟩
  have HMM := Lib.hid hM
  have HFI := Lib.hid (show firstD s = if M.err = 0 then faultsD M.out else (M.err, M.place) by rw [← hM]; rfl)
  obtain ⟨er, her⟩ : ∃ n, M.err = n := ⟨_, rfl⟩
  obtain ⟨mp, hmp⟩ : ∃ n, M.place = n := ⟨_, rfl⟩
  have HER := Lib.hid her
  have HMP := Lib.hid hmp
  have HM := Lib.hid (show Calls Tryz.prog 33 #[.string s] w1 fun e w' => ∃ v2, e = .returned (.tuple #[v2, .int .i64 (er : Nat), .int .i64 (mp : Nat)]) ∧ MarksAt w' v2 M.out ∧ Below w1.heap.size w1 w' from HM.out.mono (by
    rintro e w' ⟨v, rfl, h1, h2⟩
    rw [hM] at h1 ⊢
    rw [her, hmp]
    exact ⟨v, rfl, MarksAt.of_own h1, h2⟩))
  clear hn hrd hM her hmp
  go_wp2_with fail
  refine HM.out.mono ?_
  rintro e w2 ⟨v2, rfl, hm2, hb2⟩
  have HM2 := Lib.hid hm2
  have HB2 := Lib.hid (HB1.out.trans (hb2.mono HB1.out.size))
  obtain ⟨ma, mc, rfl⟩ := hm2.sl
  obtain ⟨ml, hml⟩ : ∃ n, M.out.length = n := ⟨_, rfl⟩
  rw [hml] at HM2
  have HML := Lib.hid hml
  rw [hml]
  obtain ⟨⟨e1, a1⟩, hf⟩ : ∃ x, firstD s = x := ⟨_, rfl⟩
  have HF := Lib.hid hf
  clear hm2 hb2 hml hf
  go_upto_if 31 with fail
  go_cut [8, 9] (fun ev av wc => ev = .int .i64 (e1 : Nat) ∧ av = .int .i64 (a1 : Nat) ∧ Below w2.heap.size w2 wc)
  case first =>
    by_cases he : er = 0
    · have j3 : ((er : Int) == 0) = true := by simp [he]
      have HX := Lib.hid (show faultsD M.out = (e1, a1) by rw [← HF.out, HFI.out, HER.out, if_pos he])
      have HFA := Lib.hid (faults_any (.slice ma ml mc) M.out w2 HM2.out (HMM.out ▸ HRD.out.len (by rw [HMM.out, HER.out]; exact he)) (HMM.out ▸ marks_kinds s) (HMM.out ▸ HRD.out.wf (by rw [HMM.out, HER.out]; exact he)))
      rw [HX.out] at HFA
      clear he
      go_wp2_with fail
      refine HFA.out.mono ?_
      rintro e w3 ⟨rfl, hb3⟩
      have HB3 := Lib.hid hb3
      clear hb3
      go_wp2_with fail
      go_meet
      case rel => exact ⟨rfl, rfl, HB3.out⟩
    · have j3 : ((er : Int) == 0) = false := by simp; omega
      have hx := (show (er, mp) = (e1, a1) by rw [← HF.out, HFI.out, HER.out, HMP.out, if_neg he])
      cases hx
      clear he
      go_wp2_with fail
      go_meet
      case rel => exact ⟨rfl, rfl, Below.refl _ _⟩
  case rest =>
    obtain ⟨rfl, rfl, hbc⟩ := hcut
    have HBC := Lib.hid hbc
    clear hbc
    by_cases he : e1 = 0
    · have j4 : ((e1 : Int) == 0) = true := by simp [he]
      have j4b : ((e1 : Int) != 0) = false := by rw [bne, j4]; rfl
      have HR := Lib.hid (show readD s = (M.out, 0, 0) by rw [HRE.out, HF.out, if_neg (not_not_intro he), HMM.out])
      clear he
      go_wp2
      refine bodyPost_ret (v := .tuple #[.slice ma ml mc, .int .i64 0, .int .i64 0]) ?_ rfl ?_
      · simp [results, Tryz.results22, go_sem]
      unfold ReadDQ
      rw [HR.out]
      exact ⟨_, rfl, HM2.out.below HBC.out, HB2.out.trans (HBC.out.mono HB2.out.size)⟩
    · have j4 : ((e1 : Int) == 0) = false := by simp; omega
      have j4b : ((e1 : Int) != 0) = true := by rw [bne, j4]; rfl
      have HR := Lib.hid (show readD s = ([], e1, countD s a1) by rw [HRE.out, HF.out, if_pos he])
      have hal : a1 ≤ s.size := by
        have := HRD.out.pl
        rw [HF.out] at this
        exact this he
      have halI : (a1 : Int) ≤ (s.size : Int) := by omega
      have HEX := Lib.hid (extract_take s a1)
      have HP2 := Lib.hid (points_any ⟨(s.data.toList.take a1).toArray⟩ wc (by show (s.data.toList.take a1).length ≤ 1000000000; rw [List.length_take]; omega))
      have HP2 := Lib.hid (show Calls Tryz.prog 26 #[.string (s.extract 0 a1)] wc fun e w' => ∃ v x, e = .returned (.tuple #[v, .int .i64 (x : Nat)]) ∧ (∃ a c, v = .slice a (countD s a1) c) ∧ Below wc.heap.size wc w' by
        rw [HEX.out]
        refine HP2.out.mono ?_
        rintro e w' ⟨v, rfl, h1, h2⟩
        exact ⟨v, _, rfl, own_slice h1, h2⟩)
      clear he
      go_wp2_with fail
      refine HP2.out.mono ?_
      rintro e w4 ⟨v4, x4, rfl, ⟨va, vc, rfl⟩, hb4⟩
      have HB4 := Lib.hid hb4
      clear hb4
      obtain ⟨cn, hcn⟩ : ∃ c, countD s a1 = c := ⟨_, rfl⟩
      rw [hcn] at HR ⊢
      clear hcn
      go_wp2
      refine bodyPost_ret (v := .tuple #[.slice none 0 0, .int .i64 (e1 : Nat), .int .i64 (cn : Nat)]) ?_ rfl ?_
      · simp [results, Tryz.results22, go_sem]
      unfold ReadDQ
      rw [HR.out]
      exact ⟨_, rfl, marks_nil _, (HB2.out.trans (HBC.out.mono HB2.out.size)).trans (HB4.out.mono (Nat.le_trans HB2.out.size HBC.out.size))⟩
end Go.Proofs.YtdelpialeajajaaGreatDoor
