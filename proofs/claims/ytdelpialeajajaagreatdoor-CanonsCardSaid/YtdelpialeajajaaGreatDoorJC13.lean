import Derived.Test.YtdelpialeajajaaGreatDoorJC12
import Derived.Test.YtdelpialeajajaaGreatDoorShelf

/- syntax's parser: follows, category, text. -/
namespace Go.Proofs.YtdelpialeajajaaGreatDoor
open Go Go.RowKit
set_option maxRecDepth 10000

set_option maxHeartbeats 4000000 in
theorem equal_rune (g1 o1 c1 g2 c2 : Nat) (l1 l2 : List Int) (w : World) (hl : l1.length ≤ 1000000) (hl2 : l2.length ≤ 1000000) (h1 : ∀ j (h : j < l1.length), w.cell? ⟨g1, o1 + j, none⟩ = some (.int .i32 l1[j])) (h2 : ∀ j (h : j < l2.length), w.cell? ⟨g2, j, none⟩ = some (.int .i32 l2[j])) :
    Calls Tryz.prog 192 #[.slice (some ⟨g1, o1, none⟩) l1.length c1, .slice (some ⟨g2, 0, none⟩) l2.length c2] w fun e w' => e = .returned (.bool (decide (l1 = l2))) ∧ Below w.heap.size w w' := by
  have H1 := Lib.hid h1
  have H2 := Lib.hid h2
  clear h1 h2
  obtain ⟨n, hn⟩ : ∃ n, l1.length = n := ⟨_, rfl⟩
  obtain ⟨m, hm⟩ : ∃ m, l2.length = m := ⟨_, rfl⟩
  have HN := Lib.hid hn
  have HM := Lib.hid hm
  rw [hn] at hl ⊢
  rw [hm] at hl2 ⊢
  obtain ⟨R, hR⟩ : ∃ b, decide (l1 = l2) = b := ⟨_, rfl⟩
  rw [hR]
  have HR := Lib.hid hR
  clear hn hm hR
  by_cases hq : n = m
  · subst hq
    go_enter Tryz.func192, Tryz.ntmps192
    go_wp2
    go_loopw [13] (fun i wr => ∃ k : Nat, k ≤ n ∧ i = .int .i64 k ∧ l1.take k = l2.take k ∧ Below w.heap.size w wr) (fun i _ => n - (intOf i).toNat)
    case atStart => exact ⟨0, Nat.zero_le _, rfl, rfl, Below.refl _ _⟩
    case round =>
      obtain ⟨k, hk, rfl, htk, hb⟩ := hrel
      have HT := Lib.hid htk
      clear htk
      by_cases hlt : k < n
      · have hc1 := H1.out k (by rw [HN.out]; exact hlt)
        have hc2 := H2.out k (by rw [HM.out]; exact hlt)
        obtain ⟨x, hx⟩ : ∃ x, l1[k]'(by rw [HN.out]; exact hlt) = x := ⟨_, rfl⟩
        obtain ⟨y, hy⟩ : ∃ y, l2[k]'(by rw [HM.out]; exact hlt) = y := ⟨_, rfl⟩
        rw [hx] at hc1
        rw [hy] at hc2
        have HX := Lib.hid hx
        have HY := Lib.hid hy
        have d1 := (hb.cell (World.block_lt_of_cell? _ _ hc1)).trans hc1
        have d2 := (hb.cell (World.block_lt_of_cell? _ _ hc2)).trans hc2
        have hS0 : wr.drew.cell? ⟨g1, o1 + k, none⟩ = some (.int .i32 x) ∧ wr.drew.cell? ⟨g2, k, none⟩ = some (.int .i32 y) := ⟨d1, d2⟩
        clear hx hy hc1 hc2 d1 d2
        by_cases hxy : x = y
        · have hxy2 : (x != y) = false := by simpa using hxy
          have HF := Lib.hid (show l1.take (k + 1) = l2.take (k + 1) by
            rw [List.take_succ_eq_append_getElem (by rw [HN.out]; exact hlt), List.take_succ_eq_append_getElem (by rw [HM.out]; exact hlt), HT.out, HX.out, HY.out, hxy])
          go_wp2_with fail
          refine wp_region_takes (fun W' : World => W'.cell? ⟨g1, o1 + k, none⟩ = some (.int .i32 x) ∧ W'.cell? ⟨g2, k, none⟩ = some (.int .i32 y)) [0, 1, 2, 3, 4, 5, 6, 7, 8] 0 (by intro _ _ d _ _ h; cases d <;> exact h) (by kernel_rfl) (by kernel_rfl) hS0 ?_
          (iterate 9 (first | (refine takes_yes (v := ?_) rfl (by rfl) ?_ ?_; rotate_left; (focus ((intro w' hS'; (try dsimp only at hS'); go_simp; try (with_reducible rfl)); done)); (try simp only [Act.put, List.setIfInBounds_toArray, List.set_cons_zero, List.set_cons_succ])) | (refine takes_no rfl (by rfl) ?_; (try simp only [Act.put, List.setIfInBounds_toArray, List.set_cons_zero, List.set_cons_succ]))))
          refine takes_nil ?_
          refine wpAnyH_done (by kernel_rfl) ?_ _
          go_wp2
          go_roundw
          case rel => exact ⟨k + 1, by omega, by go_num, HF.out, hb.drew⟩
          case measure => simp [intOf]; omega
        · have hxy2 : (x != y) = true := by simpa using hxy
          have HF := Lib.hid (show R = false by
            rw [← HR.out, decide_eq_false_iff_not]
            intro e
            subst e
            exact hxy (HX.out.symm.trans HY.out))
          go_wp2_with fail
          refine wp_region_takes (fun W' : World => W'.cell? ⟨g1, o1 + k, none⟩ = some (.int .i32 x) ∧ W'.cell? ⟨g2, k, none⟩ = some (.int .i32 y)) [0, 1, 2, 3, 4, 5, 6, 7, 8] 0 (by intro _ _ d _ _ h; cases d <;> exact h) (by kernel_rfl) (by kernel_rfl) hS0 ?_
          (iterate 9 (first | (refine takes_yes (v := ?_) rfl (by rfl) ?_ ?_; rotate_left; (focus ((intro w' hS'; (try dsimp only at hS'); go_simp; try (with_reducible rfl)); done)); (try simp only [Act.put, List.setIfInBounds_toArray, List.set_cons_zero, List.set_cons_succ])) | (refine takes_no rfl (by rfl) ?_; (try simp only [Act.put, List.setIfInBounds_toArray, List.set_cons_zero, List.set_cons_succ]))))
          refine takes_nil ?_
          refine wpAnyH_done (by kernel_rfl) ?_ _
          go_wp2
          go_ret
          exact ⟨by rw [HF.out]; rfl, hb.drew⟩
      · obtain rfl : k = n := by omega
        have HF := Lib.hid (show R = true by
          rw [← HR.out, decide_eq_true_eq]
          have h := HT.out
          rw [List.take_of_length_le (by rw [HN.out]; exact Nat.le_refl _), List.take_of_length_le (by rw [HM.out]; exact Nat.le_refl _)] at h
          exact h)
        go_wp2
        go_ret
        exact ⟨by rw [HF.out]; rfl, hb⟩
  · have HF := Lib.hid (show R = false by
      rw [← HR.out, decide_eq_false_iff_not]
      intro e
      subst e
      exact hq (HN.out.symm.trans HM.out))
    have hq2 : ((n : Int) != (m : Int)) = true := by simp; omega
    go_enter Tryz.func192, Tryz.ntmps192
    go_wp2
    go_ret
    exact ⟨by rw [HF.out]; rfl, Below.refl _ _⟩

/-- the word of an offset -/
def offW : List Int := [111, 102, 102, 115, 101, 116, 58]
def offB (rs : List Int) (i : Nat) : Bool := decide ((rs.drop i).take 7 = offW)

theorem runes_off : Conv.runesFrom (⟨#[111, 102, 102, 115, 101, 116, 58]⟩ : ByteArray) 7 0 #[] = (offW.map (Value.int .i32)).toArray := by kernel_rfl

set_option maxHeartbeats 4000000 in
theorem syn_follows (p : Nat) (rs : List Int) (i d : Nat) (w : World) (h : SynAt p rs i d w) :
    Calls Tryz.prog 153 #[.pointer (some ⟨p, 0, none⟩), .string ⟨#[111, 102, 102, 115, 101, 116, 58]⟩] w (StepQ p rs d (.bool (offB rs i)) (if offB rs i = true then i + 7 else i) w) := by
  have HH := Lib.hid h
  have hcv := fun W => run_runes_of_string (P := Tryz.prog) W 9 152 21 ⟨#[111, 102, 102, 115, 101, 116, 58]⟩ Tryz.underlying9 Tryz.underlying152 Tryz.underlying21 (by rw [show (⟨#[111, 102, 102, 115, 101, 116, 58]⟩ : ByteArray).size = 7 from rfl, runes_off]; decide)
  have F : ∃ cp W, (convert 9 152 (.string ⟨#[111, 102, 102, 115, 101, 116, 58]⟩)).run Tryz.prog w = .ok (.slice (some ⟨w.heap.size, 0, none⟩) 7 cp) W ∧ Below w.heap.size w W ∧ ∀ j (h : j < offW.length), W.cell? ⟨w.heap.size, j, none⟩ = some (.int .i32 offW[j]) := by
    refine ⟨_, _, hcv w, (Below.refl _ _).drew.alloc (Nat.le_refl _) _, fun j hj => ?_⟩
    rw [show w.heap.size = w.drew.heap.size from rfl, cell_made]
    rw [show (⟨#[111, 102, 102, 115, 101, 116, 58]⟩ : ByteArray).size = 7 from rfl, runes_off]
    rw [Array.getElem?_append_left (by simpa using hj)]
    simp
  obtain ⟨cp, W, hrun, hbW, hcells⟩ := F
  obtain ⟨⟨g, cap, c0, hlc, hcm, hgp, hrc⟩, c1, _, _, _, hlen, hhere, _⟩ := h
  have hplt := World.block_lt_of_cell? w _ c1
  have HRC := Lib.hid (fun j (hj : j < rs.length) => (hbW.cell (World.block_lt_of_cell? _ _ (hrc j hj))).trans (hrc j hj))
  have HCL := Lib.hid hcells
  obtain ⟨L, hL⟩ : ∃ L, rs.length = L := ⟨_, rfl⟩
  rw [hL] at c0 hlc hlen hhere
  have HL := Lib.hid hL
  have hS0 : W.drew.cell? ⟨p, 1, none⟩ = some (.int .i64 i) ∧ W.drew.cell? ⟨p, 0, none⟩ = some (.slice (some ⟨g, 0, none⟩) L cap) := ⟨(hbW.cell (p := ⟨p, 1, none⟩) hplt).trans c1, (hbW.cell (p := ⟨p, 0, none⟩) hplt).trans c0⟩
  obtain ⟨B, hB⟩ : ∃ B, offB rs i = B := ⟨_, rfl⟩
  rw [hB]
  have HB := Lib.hid hB
  obtain ⟨J, hJ⟩ : ∃ J, (if B = true then i + 7 else i) = J := ⟨_, rfl⟩
  rw [hJ]
  have HJ := Lib.hid hJ
  clear hJ
  obtain ⟨N, hN⟩ : ∃ N, w.heap.size = N := ⟨_, rfl⟩
  rw [hN] at hrun HCL
  clear hcv hcells hrc hL hB
  have hw1 : IntKind.i64.wrap ((L : Int) - (i : Int)) = (L : Int) - (i : Int) := by simp [IntKind.wrap, IntKind.signed, IntKind.bits]; omega
  by_cases hsh : L < i + 7
  · have g1 : decide ((L : Int) - (i : Int) < 7) = true := by simp; omega
    have HF := Lib.hid (show B = false by
      rw [← HB.out]
      unfold offB
      rw [decide_eq_false_iff_not]
      intro e
      have e2 := congrArg List.length e
      rw [List.length_take, List.length_drop, HL.out] at e2
      have e3 : offW.length = 7 := rfl
      omega)
    go_enter Tryz.func153, Tryz.ntmps153
    go_wp2_with fail
    refine wp_region_takes (fun W' : World => W'.cell? ⟨p, 1, none⟩ = some (.int .i64 i) ∧ W'.cell? ⟨p, 0, none⟩ = some (.slice (some ⟨g, 0, none⟩) L cap)) [0, 1, 2, 3, 4, 5, 6, 7, 8, 9, 10, 11, 12, 13, 14, 15, 16, 17, 18, 19, 20, 21, 22, 23, 24, 25, 26, 27, 28, 29, 30] 3 (by intro _ _ d _ _ h; cases d <;> exact h) (by kernel_rfl) (by kernel_rfl) hS0 ?_
    (iterate 31 (first | (refine takes_yes (v := ?_) rfl (by rfl) ?_ ?_; rotate_left; (focus ((intro w' hS'; (try dsimp only at hS'); go_simp; try (with_reducible rfl)); done)); (try simp only [Act.put, List.setIfInBounds_toArray, List.set_cons_zero, List.set_cons_succ])) | (refine takes_no rfl (by rfl) ?_; (try simp only [Act.put, List.setIfInBounds_toArray, List.set_cons_zero, List.set_cons_succ]))))
    refine takes_nil ?_
    refine wpAnyH_only 31 (by kernel_rfl) rfl (fun K hK => ?_)
    rw [if_neg (by exact Bool.false_ne_true)]
    refine hK.out _ _ hS0 (fun _ => ?_)
    clear hK K
    refine wpAnyH_more [32, 33] 0 rfl (by intro _ _ d _ _ h; cases d <;> exact h) (by kernel_rfl) (by kernel_rfl) hS0 ?_
    (iterate 2 (first | (refine takes_yes (v := ?_) rfl (by rfl) ?_ ?_; rotate_left; (focus ((intro w' hS'; (try dsimp only at hS'); go_simp; try (with_reducible rfl)); done)); (try simp only [Act.put, List.setIfInBounds_toArray, List.set_cons_zero, List.set_cons_succ])) | (refine takes_no rfl (by rfl) ?_; (try simp only [Act.put, List.setIfInBounds_toArray, List.set_cons_zero, List.set_cons_succ]))))
    refine takes_nil ?_
    refine wpAnyH_done (by kernel_rfl) ?_ _
    go_wp2
    go_ret
    have hJi : J = i := by rw [← HJ.out, HF.out]; rfl
    exact ⟨by rw [HF.out]; rfl, by rw [hJi]; exact HH.out.below hbW.drew, But.of hbW.drew⟩
  · have g1 : decide ((L : Int) - (i : Int) < 7) = false := by simp; omega
    have g2 : IntKind.i64.wrap ((i : Int) + 7) = (i : Int) + 7 := by simp [IntKind.wrap, IntKind.signed, IntKind.bits]; omega
    have k1 : i ≤ i + 7 := by omega
    have k2 : i + 7 ≤ cap := by omega
    have k3 : i ≤ cap := by omega
    have k4 : (i : Int) ≤ (i : Int) + 7 := by omega
    have k5 : (i : Int) + 7 ≤ (cap : Int) := by omega
    have k6 : ((i : Int) + 7).toNat = i + 7 := by omega
    have k7 : (0 : Int) ≤ (i : Int) + 7 := by omega
    have k8 : i + 7 - i = 7 := by omega
    have k9 : (i : Int) + 7 - (i : Int) = 7 := by omega
    have k10 : ¬ cap = i := by omega
    have hsl : ((rs.drop i).take 7).length = 7 := by rw [List.length_take, List.length_drop, HL.out]; omega
    have heq := equal_rune g i (cap - i) N cp ((rs.drop i).take 7) offW W.drew (by rw [hsl]; decide) (by decide) (fun j hj => by
      have hj2 : i + j < rs.length := by rw [HL.out]; rw [hsl] at hj; omega
      have hj3 : j < 7 := by rw [hsl] at hj; exact hj
      refine (HRC.out (i + j) hj2).trans ?_
      simp [List.getElem_take, List.getElem_drop]) HCL.out
    rw [hsl, show offW.length = 7 from rfl, show decide ((rs.drop i).take 7 = offW) = B from HB.out] at heq
    have HEQ := Lib.hid heq
    clear hsl heq
    go_enter Tryz.func153, Tryz.ntmps153
    go_wp2_with fail
    refine wp_region_takes (fun W' : World => W'.cell? ⟨p, 1, none⟩ = some (.int .i64 i) ∧ W'.cell? ⟨p, 0, none⟩ = some (.slice (some ⟨g, 0, none⟩) L cap)) [0, 1, 2, 3, 4, 5, 6, 7, 8, 9, 10, 11, 12, 13, 14, 15, 16, 17, 18, 19, 20, 21, 22, 23, 24, 25, 26, 27, 28, 29, 30] 3 (by intro _ _ d _ _ h; cases d <;> exact h) (by kernel_rfl) (by kernel_rfl) hS0 ?_
    (iterate 31 (first | (refine takes_yes (v := ?_) rfl (by rfl) ?_ ?_; rotate_left; (focus ((intro w' hS'; (try dsimp only at hS'); go_simp; try (with_reducible rfl)); done)); (try simp only [Act.put, List.setIfInBounds_toArray, List.set_cons_zero, List.set_cons_succ])) | (refine takes_no rfl (by rfl) ?_; (try simp only [Act.put, List.setIfInBounds_toArray, List.set_cons_zero, List.set_cons_succ]))))
    refine takes_nil ?_
    refine wpAnyH_only 31 (by kernel_rfl) rfl (fun K hK => ?_)
    go_simp
    refine HEQ.out.mono ?_
    rintro e w2 ⟨rfl, hb2⟩
    have hW2 : W.heap.size ≤ w2.heap.size := hb2.size
    have hbb2 : Below w.heap.size w w2 := (hbW.drew).trans (hb2.mono hbW.size)
    have hs2 := HH.out.below hbb2
    have HS2 := Lib.hid hs2
    have hS2 : w2.cell? ⟨p, 1, none⟩ = some (.int .i64 i) ∧ w2.cell? ⟨p, 0, none⟩ = some (.slice (some ⟨g, 0, none⟩) L cap) := ⟨(hbb2.cell (p := ⟨p, 1, none⟩) hplt).trans c1, (hbb2.cell (p := ⟨p, 0, none⟩) hplt).trans c0⟩
    have h7 := hs2.z1
    refine hK.out _ _ hS2 (fun _ => ?_)
    clear hK K hs2
    refine wpAnyH_more [32, 33] 0 rfl (by intro _ _ d _ _ h; cases d <;> exact h) (by kernel_rfl) (by kernel_rfl) hS2 ?_
    (iterate 2 (first | (refine takes_yes (v := ?_) rfl (by rfl) ?_ ?_; rotate_left; (focus ((intro w' hS'; (try dsimp only at hS'); go_simp; try (with_reducible rfl)); done)); (try simp only [Act.put, List.setIfInBounds_toArray, List.set_cons_zero, List.set_cons_succ])) | (refine takes_no rfl (by rfl) ?_; (try simp only [Act.put, List.setIfInBounds_toArray, List.set_cons_zero, List.set_cons_succ]))))
    refine takes_nil ?_
    refine wpAnyH_done (by kernel_rfl) ?_ _
    cases B
    · go_wp2
      go_ret
      have hJi : J = i := by rw [← HJ.out]; rfl
      exact ⟨rfl, by rw [hJi]; exact HS2.out, But.of hbb2⟩
    · have hmv := HS2.out.move (i + 7) (by rw [HL.out]; omega)
      have HMV := Lib.hid hmv
      clear hmv
      go_wp2
      go_ret
      have hJi : J = i + 7 := by rw [← HJ.out]; rfl
      exact ⟨rfl, by rw [hJi]; simpa using HMV.out, (But.of hbb2).setIn 1 _⟩
end Go.Proofs.YtdelpialeajajaaGreatDoor

/- The categories' names in memory. -/
namespace Go.Proofs.YtdelpialeajajaaGreatDoor
open Go Go.RowKit
set_option maxRecDepth 10000

def catsB : List ByteArray := [⟨#[122, 101, 114, 111]⟩, ⟨#[111, 110, 101]⟩, ⟨#[116, 119, 111]⟩, ⟨#[102, 101, 119]⟩, ⟨#[109, 97, 110, 121]⟩, ⟨#[111, 116, 104, 101, 114]⟩]

/-- the categories' names are there -/
def NamesAt (w : World) : Prop := ∀ j, j < 6 → w.cell? ⟨1, j, none⟩ = some (.string (catsB.getD j ByteArray.empty))

theorem NamesAt.below {w w' : World} (h : NamesAt w) (hb : Below w.heap.size w w') : NamesAt w' := fun j hj => (hb.cell (World.block_lt_of_cell? w _ (h j hj))).trans (h j hj)
end Go.Proofs.YtdelpialeajajaaGreatDoor

/- syntax's parser: category, text. -/
namespace Go.Proofs.YtdelpialeajajaaGreatDoor
open Go Go.RowKit
set_option maxRecDepth 10000

theorem contains_cats (x : Wd) : Lib.containsS (catsB.take 6) ⟨x.toArray⟩ = decide (x ∈ catsL) := by
  have e : catsB.take 6 = catsL.map (fun l => (⟨l.toArray⟩ : ByteArray)) := rfl
  rw [e, Bool.eq_iff_iff, decide_eq_true_eq, Lib.containsS_iff, List.mem_map]
  constructor
  · rintro ⟨y, hy, h2⟩
    have h3 := congrArg (fun b : ByteArray => b.data.toList) h2
    simp at h3
    rw [← h3]
    exact hy
  · intro h
    exact ⟨x, h, rfl⟩

theorem syn_category (x : Wd) (w : World) (h : NamesAt w) : Calls Tryz.prog 194 #[strv x] w fun e w' => e = .returned (.bool (decide (x ∈ catsL))) ∧ w = w' := by
  have HC := Lib.hid (Tryz.slices_Contains_string 1 0 6 6 catsB ⟨x.toArray⟩ w (by decide) (by decide) (fun j hj => by rw [Nat.zero_add]; exact h j hj))
  rw [contains_cats] at HC
  go_enter Tryz.func194, Tryz.ntmps194
  go_wp2_with fail
  refine HC.out.mono ?_
  rintro e w' ⟨rfl, rfl⟩
  go_wp2
  go_ret
  exact ⟨rfl, rfl⟩

/-- what a quote says, from behind its apostrophe on; how many code points it takes -/
def quoteL : List Int → List Int × Nat
  | [] => ([], 0)
  | c :: t => if c = 39 then
      match t with
      | [] => ([], 1)
      | d :: u => if d = 39 then (39 :: (quoteL u).1, (quoteL u).2 + 2) else ([], 1)
    else (c :: (quoteL t).1, (quoteL t).2 + 1)

/-- what the code point at hand says in a text; where it ends -/
def textT (rs : List Int) (num : Bool) (i : Nat) : Wd × Nat :=
  if nextL rs i ≠ 39 then (enc (nextL rs i), i + 1)
  else if nextL rs (i + 1) = 39 then (enc 39, i + 2)
  else if specialL (nextL rs (i + 1)) num = false then (enc 39, i + 1)
  else ((quoteL (rs.drop (i + 1))).1.flatMap enc, i + 1 + (quoteL (rs.drop (i + 1))).2)

theorem elem_runes : Elem Tryz.prog 152 21 (.int .i32 0) 1 4 :=
  ⟨Tryz.underlying152, info_parts (by kernel_rfl), rfl, by decide, by decide⟩

theorem quote_end {rs : List Int} {j : Nat} (h : rs.length ≤ j) : quoteL (rs.drop j) = ([], 0) := by rw [List.drop_of_length_le h, quoteL]
theorem quote_drop {rs : List Int} {j : Nat} (h : j < rs.length) : rs.drop j = nextL rs j :: rs.drop (j + 1) := by
  rw [List.drop_eq_getElem_cons h]
  unfold nextL
  rw [List.getD_eq_getElem?_getD, List.getElem?_eq_getElem h]
  rfl
theorem quote_more {rs : List Int} {j : Nat} (h : j < rs.length) (hq : nextL rs j ≠ 39) : quoteL (rs.drop j) = (nextL rs j :: (quoteL (rs.drop (j + 1))).1, (quoteL (rs.drop (j + 1))).2 + 1) := by
  rw [quote_drop h, quoteL.eq_def]
  dsimp only
  rw [if_neg hq]
theorem quote_two {rs : List Int} {j : Nat} (h : j < rs.length) (hq : nextL rs j = 39) (h2 : nextL rs (j + 1) = 39) : quoteL (rs.drop j) = (39 :: (quoteL (rs.drop (j + 2))).1, (quoteL (rs.drop (j + 2))).2 + 2) := by
  have hlt : j + 1 < rs.length := by
    apply Classical.byContradiction
    intro hc
    rw [next_end (by omega)] at h2
    cases h2
  rw [quote_drop h, quote_drop hlt, quoteL.eq_def]
  dsimp only
  rw [if_pos hq, if_pos h2]
theorem quote_stop {rs : List Int} {j : Nat} (h : j < rs.length) (hq : nextL rs j = 39) (h2 : nextL rs (j + 1) ≠ 39) : quoteL (rs.drop j) = ([], 1) := by
  rw [quote_drop h, quoteL.eq_def]
  dsimp only
  rw [if_pos hq]
  by_cases hlt : j + 1 < rs.length
  · rw [quote_drop hlt]
    dsimp only
    rw [if_neg h2]
  · rw [List.drop_of_length_le (by omega)]
end Go.Proofs.YtdelpialeajajaaGreatDoor

/- syntax's parser: text. -/
namespace Go.Proofs.YtdelpialeajajaaGreatDoor
open Go Go.RowKit
set_option maxRecDepth 10000

theorem own_but {w w' : World} {p base size n : Nat} {e : TypeId} {v : Value} {xs : List Value} (h : w.ownsRow base e size v n xs) (hb : But p w w') (hp : p < base) : w'.ownsRow base e size v n xs :=
  h.kept (row := some p) ⟨hb.os, hb.tape, hb.output, hb.size, fun i hi hn => hb.block i hi (fun e => hn (by rw [e]))⟩ (by
    cases hv : v.ownBlock with
    | none => exact .inl rfl
    | some g => exact .inr (fun e => by have := (h.lt g hv).1; cases e; omega))

theorem quote_len : ∀ (n : Nat) (l : List Int), l.length ≤ n → (quoteL l).2 ≤ l.length ∧ (quoteL l).1.length ≤ l.length := by
  intro n
  induction n with
  | zero =>
    intro l h
    have : l = [] := List.eq_nil_of_length_eq_zero (by omega)
    subst this
    simp [quoteL]
  | succ n ih =>
    intro l h
    cases l with
    | nil => simp [quoteL]
    | cons c t =>
      rw [quoteL.eq_def]
      dsimp only
      by_cases hc : c = 39
      · rw [if_pos hc]
        cases t with
        | nil => simp
        | cons d u =>
          dsimp only
          by_cases hd : d = 39
          · rw [if_pos hd]
            have := ih u (by simp at h; omega)
            simp
            omega
          · rw [if_neg hd]
            simp
      · rw [if_neg hc]
        have := ih t (by simp at h; omega)
        simp
        omega

theorem text_end {rs : List Int} {num : Bool} {i : Nat} (h : i < rs.length) : i < (textT rs num i).2 ∧ (textT rs num i).2 ≤ rs.length := by
  unfold textT
  split
  · exact ⟨by show i < i + 1; omega, by show i + 1 ≤ _; omega⟩
  split
  · next h2 =>
    have : i + 1 < rs.length := by
      apply Classical.byContradiction
      intro hc
      rw [next_end (by omega)] at h2
      cases h2
    exact ⟨by show i < i + 2; omega, by show i + 2 ≤ _; omega⟩
  split
  · exact ⟨by show i < i + 1; omega, by show i + 1 ≤ _; omega⟩
  · have := (quote_len _ (rs.drop (i + 1)) (Nat.le_refl _)).1
    rw [List.length_drop] at this
    exact ⟨by show i < i + 1 + _; omega, by show i + 1 + _ ≤ _; omega⟩

/-- runes of the call's own as a text -/
theorem runes_text {w : World} {base : Nat} {v : Value} {acc : List Int} (h : w.ownsRow base 21 1 v acc.length (acc.map (Value.int .i32))) :
    (convert 152 204 v).run Tryz.prog w = .ok (strv (acc.flatMap enc)) w := by
  rcases h.2 with ⟨hv, hn⟩ | ⟨g, cap, cur, hv, _⟩
  · have : acc = [] := List.eq_nil_of_length_eq_zero hn
    subst this
    rw [hv, run_convert_runes_nil w _ _ 21 _ _ Tryz.underlying152 Tryz.underlying21 Tryz.underlying204]
    rfl
  · subst hv
    have hc := run_convert_runes (P := Tryz.prog) w 152 204 21 ⟨g, 0, none⟩ acc.length cap acc (Nat.le_refl _) Tryz.underlying152 Tryz.underlying21 Tryz.underlying204 (fun j hj => by
      rw [addr_add0, h.cellAt j (by omega)]
      simp [List.getD_eq_getElem?_getD, hj])
    rw [List.take_length, runesBytes_enc] at hc
    exact hc

set_option maxHeartbeats 8000000 in
theorem syn_text (p : Nat) (rs : List Int) (i d : Nat) (num : Bool) (w : World) (h : SynAt p rs i d w) (hi : i < rs.length) :
    Calls Tryz.prog 112 #[.pointer (some ⟨p, 0, none⟩), .bool num] w (StepQ p rs d (strv (textT rs num i).1) (textT rs num i).2 w) := by
  have HH := Lib.hid h
  have HN := Lib.hid (syn_next p rs i d w h)
  have hL := h.len
  have hplt := h.lt
  obtain ⟨T, hT⟩ : ∃ T, textT rs num i = T := ⟨_, rfl⟩
  rw [hT]
  have HT := Lib.hid hT
  obtain ⟨T1, T2⟩ := T
  dsimp only
  obtain ⟨q, hq⟩ : ∃ q, nextL rs i = q := ⟨_, rfl⟩
  rw [hq] at HN
  have HQ := Lib.hid hq
  clear h hT hq
  go_enter Tryz.func112, Tryz.ntmps112
  go_wp2_with fail
  refine HN.out.mono ?_
  rintro e w1 ⟨rfl, hb1⟩
  have hs1 := HH.out.below hb1
  have h5 := hs1.at_
  have h7 := hs1.z1
  have hmv := hs1.move (i + 1) (by omega)
  have HM := Lib.hid (show SynAt p rs (i + 1) d (w1.setCell ⟨p, 1, none⟩ (.int .i64 ((i : Int) + 1))) by rw [show (i : Int) + 1 = ((i + 1 : Nat) : Int) by omega]; exact hmv)
  have hbut : But p w (w1.setCell ⟨p, 1, none⟩ (.int .i64 ((i : Int) + 1))) := (But.of hb1).setIn 1 _
  obtain ⟨W, hW⟩ : ∃ W, w1.setCell ⟨p, 1, none⟩ (.int .i64 ((i : Int) + 1)) = W := ⟨_, rfl⟩
  rw [hW] at HM hbut
  have HW := Lib.hid hW
  clear hs1 hmv hb1 HN hW
  by_cases hq39 : q = 39
  · have hq2 : (q != 39) = false := by rw [hq39]; rfl
    have hT2 := HT.out
    unfold textT at hT2
    rw [if_neg (by rw [HQ.out, hq39]; simp)] at hT2
    have HT2 := Lib.hid hT2
    have htake := syn_take p rs (i + 1) d 39 W HM.out (by decide)
    clear hT2 HQ
    subst hq39
    by_cases hn39 : nextL rs (i + 1) = 39
    · rw [show (nextL rs (i + 1) == 39) = true by simpa using hn39, if_pos hn39] at htake
      have HTK := Lib.hid htake
      have HE := Lib.hid (show (enc 39, i + 2) = (T1, T2) by have h := HT2.out; rw [if_pos hn39] at h; exact h)
      clear htake hn39
      go_wp2_with fail
      rw [HW.out]
      refine HTK.out.mono ?_
      rintro e w2 ⟨rfl, hs2, hb2⟩
      have HS2 := Lib.hid hs2
      clear hs2
      go_wp2
      go_ret
      have he := HE.out
      cases he
      exact ⟨rfl, HS2.out, hbut.trans hb2⟩
    · rw [show (nextL rs (i + 1) == 39) = false by simpa using hn39, if_neg hn39] at htake
      have HTK := Lib.hid htake
      have hT3 := HT2.out
      rw [if_neg hn39] at hT3
      have HT3 := Lib.hid hT3
      obtain ⟨sp, hsp⟩ : ∃ b, specialL (nextL rs (i + 1)) num = b := ⟨_, rfl⟩
      have HSP := Lib.hid hsp
      clear htake hT3 hsp HT2
      go_wp2_with fail
      rw [HW.out]
      refine HTK.out.mono ?_
      rintro e w2 ⟨rfl, hs2, hb2⟩
      have HS2 := Lib.hid hs2
      have hbut2 := hbut.trans hb2
      clear hs2 hb2 HTK HW HM hbut
      go_wp2_with fail
      refine (syn_next p rs (i + 1) d w2 HS2.out).mono ?_
      rintro e w3 ⟨rfl, hb3⟩
      have HS3 := Lib.hid (HS2.out.below hb3)
      have hbut3 := hbut2.below hb3
      clear hb3 hbut2 HS2
      go_wp2_with fail
      refine (syn_special (nextL rs (i + 1)) num w3).mono ?_
      rintro e w' ⟨rfl, rfl⟩
      rw [HSP.out]
      cases sp
      · have HE := Lib.hid (show (enc 39, i + 1) = (T1, T2) by have h := HT3.out; rw [if_pos HSP.out] at h; exact h)
        go_wp2
        go_ret
        have he := HE.out
        cases he
        exact ⟨rfl, HS3.out, hbut3⟩
      · have HE := Lib.hid (show ((quoteL (rs.drop (i + 1))).1.flatMap enc, i + 1 + (quoteL (rs.drop (i + 1))).2) = (T1, T2) by have h := HT3.out; rw [if_neg (by rw [HSP.out]; simp)] at h; exact h)
        clear HT3 HSP HT hn39
        go_wp2_with fail
        obtain ⟨wq, hwq⟩ : ∃ x, x = w3 := ⟨_, rfl⟩
        obtain ⟨E1, hE1⟩ : ∃ x, (quoteL (rs.drop (i + 1))).1 = x := ⟨_, rfl⟩
        obtain ⟨E2, hE2⟩ : ∃ x, i + 1 + (quoteL (rs.drop (i + 1))).2 = x := ⟨_, rfl⟩
        have HE1 := Lib.hid hE1
        have HE2 := Lib.hid hE2
        clear hE1 hE2
        go_loopw [5, 6] (fun rv tv wr => ∃ (j : Nat) (r : Int) (acc : List Int), j ≤ rs.length ∧ rv = .int .i32 r ∧ SynAt p rs j d wr ∧ But p w wr ∧ wr.ownsRow w.heap.size 21 1 tv acc.length (acc.map (Value.int .i32)) ∧ acc.length ≤ j ∧ acc ++ (quoteL (rs.drop j)).1 = E1 ∧ j + (quoteL (rs.drop j)).2 = E2) (fun _ _ wr => rs.length - atOf p wr)
        case atStart => exact ⟨i + 1, 39, [], by omega, rfl, HS3.out, hbut3, World.ownsRow_nil _ _ _ _, by simp, HE1.out, HE2.out⟩
        case round =>
          obtain ⟨j, r, acc, hj, rfl, hs, hbw, hown, hal, ha1, ha2⟩ := hrel
          have HS := Lib.hid hs
          have HO := Lib.hid hown
          have HA1 := Lib.hid ha1
          have HA2 := Lib.hid ha2
          obtain ⟨ta, tc, rfl⟩ := own_slice hown
          clear hs hown ha1 ha2
          go_wp2_with fail
          refine (syn_next p rs j d wr HS.out).mono ?_
          rintro e w4 ⟨rfl, hb4⟩
          have hs4 := HS.out.below hb4
          have HS4 := Lib.hid hs4
          have HO4 := Lib.hid (own_but HO.out (But.of (p := p) hb4) hplt)
          have hbw4 := hbw.below hb4
          clear hs4 hb4 hbw
          by_cases hend : j < rs.length
          · obtain ⟨c, hc⟩ : ∃ c, nextL rs j = c := ⟨_, rfl⟩
            rw [hc]
            have hcp : 0 ≤ c := by
              rw [← hc]
              unfold nextL
              rw [List.getD_eq_getElem?_getD, List.getElem?_eq_getElem hend]
              exact HS4.out.pos _ (List.getElem_mem hend)
            have hc1 : c ≠ -1 := by omega
            have HC := Lib.hid hc
            clear hc
            go_wp2_with fail
            refine (syn_next p rs j d w4 HS4.out).mono ?_
            rintro e w5 ⟨rfl, hb5⟩
            rw [HC.out]
            have hs5 := HS4.out.below hb5
            have HO5 := Lib.hid (own_but HO4.out (But.of (p := p) hb5) hplt)
            have hbw5 := hbw4.below hb5
            have g5 := hs5.at_
            have g7 := hs5.z1
            have hmv := hs5.move (j + 1) (by omega)
            have hM : SynAt p rs (j + 1) d (w5.setCell ⟨p, 1, none⟩ (.int .i64 ((j : Int) + 1))) := by rw [show (j : Int) + 1 = ((j + 1 : Nat) : Int) by omega]; exact hmv
            have hO6 := own_but HO5.out (But.set p w5 1 (.int .i64 ((j : Int) + 1))) hplt
            have hbw6 : But p w (w5.setCell ⟨p, 1, none⟩ (.int .i64 ((j : Int) + 1))) := hbw5.setIn 1 _
            obtain ⟨W6, hW6⟩ : ∃ W, w5.setCell ⟨p, 1, none⟩ (.int .i64 ((j : Int) + 1)) = W := ⟨_, rfl⟩
            rw [hW6] at hM hO6 hbw6
            have HM6 := Lib.hid hM
            have HO6 := Lib.hid hO6
            have HW6 := Lib.hid hW6
            clear hs5 hmv hM hO6 hb5 hbw5 hW6
            by_cases hc39 : c = 39
            · have hq3 : (c == 39) = true := by rw [hc39]; rfl
              have htk := syn_take p rs (j + 1) d 39 W6 HM6.out (by decide)
              by_cases hn2 : nextL rs (j + 1) = 39
              · rw [show (nextL rs (j + 1) == 39) = true by simpa using hn2, if_pos hn2] at htk
                have HTK2 := Lib.hid htk
                have HQQ := Lib.hid (quote_two hend (HC.out.trans hc39) hn2)
                have hj2 : j + 1 < rs.length := by
                  apply Classical.byContradiction
                  intro hcc
                  rw [next_end (by omega)] at hn2
                  cases hn2
                subst hc39
                clear htk hn2
                go_wp2_with fail
                rw [HW6.out]
                refine HTK2.out.mono ?_
                rintro e w7 ⟨rfl, hs7, hb7⟩
                have HS7 := Lib.hid hs7
                have HO7 := Lib.hid (own_but HO6.out hb7 hplt)
                have hbw7 := hbw6.trans hb7
                have hsz7 : w.heap.size ≤ w7.heap.size := hbw7.size
                clear hs7 hb7 HTK2
                go_wp2_with (first | (at_builtin; refine app_own elem_runes rfl _ _ rfl w.heap.size _ acc.length (acc.map (Value.int .i32)) rfl (HO7.out.alloc _) ⟨w7.heap.size, 0, none⟩ 1 1 [.int .i32 39] rfl rfl ?a1 ?a2 ?a3 ?a4 ?_) | fail)
                case a1 => exact cells_one (cell_made _ _ _ _ _)
                case a2 =>
                  intro u hu
                  simp at hu
                  subst hu
                  rfl
                case a3 => have := HS7.out.len; omega
                case a4 => simp; omega
                intro v8 w8 ho8 hg8
                have hrow8 : ∀ q, (Value.slice ta acc.length tc).ownBlock = some q → w.heap.size ≤ q := fun q hq => (HO7.out.lt q hq).1
                have hbw8 : But p w w8 := (hbw7.below ((Below.refl _ _).alloc (Nat.le_refl _) _)).grown hg8 hrow8
                have hS8 := (HS7.out.below ((Below.refl _ _).alloc (Nat.le_refl _) _)).grown hg8 (fun q hq => by have := hrow8 q hq; omega)
                have HS8 := Lib.hid hS8
                have HO8 := Lib.hid (show w8.ownsRow w.heap.size 21 1 v8 (acc ++ [39]).length ((acc ++ [39]).map (Value.int .i32)) by simpa using ho8)
                clear ho8 hg8 hS8
                go_wp2
                go_roundw
                case rel => exact ⟨j + 2, 39, acc ++ [39], by omega, rfl, HS8.out, hbw8, HO8.out, by simp; omega, by rw [← HA1.out, HQQ.out]; simp, by rw [← HA2.out, HQQ.out]; omega⟩
                case measure => rw [atOf_syn HS8.out, atOf_syn HS.out]; omega
              · rw [show (nextL rs (j + 1) == 39) = false by simpa using hn2, if_neg hn2] at htk
                have HTK2 := Lib.hid htk
                have hqq := quote_stop hend (HC.out.trans hc39) hn2
                have HF1 := Lib.hid (show acc = E1 by rw [← HA1.out, hqq]; simp)
                have HF2 := Lib.hid (show j + 1 = E2 by rw [← HA2.out, hqq])
                subst hc39
                clear htk hn2 hqq
                go_wp2_with fail
                rw [HW6.out]
                refine HTK2.out.mono ?_
                rintro e w7 ⟨rfl, hs7, hb7⟩
                have HS7 := Lib.hid hs7
                have HO7 := Lib.hid (own_but HO6.out hb7 hplt)
                have hbw7 := hbw6.trans hb7
                have hcv := runes_text HO7.out
                clear hs7 hb7 HTK2
                go_wp2
                go_ret
                have he := HE.out
                rw [HE1.out, HE2.out] at he
                cases he
                exact ⟨by rw [HF1.out]; rfl, by rw [← HF2.out]; exact HS7.out, hbw7⟩
            · have hq3 : (c == 39) = false := by simpa using hc39
              have HQQ := Lib.hid (quote_more hend (fun e => hc39 (HC.out.symm.trans e)))
              have hsz6 : w.heap.size ≤ W6.heap.size := hbw6.size
              have hW6e := HW6.out
              subst hW6e
              go_wp2_with (first | (at_builtin; refine app_own elem_runes rfl _ _ rfl w.heap.size _ acc.length (acc.map (Value.int .i32)) rfl (HO6.out.alloc _) ⟨w5.heap.size, 0, none⟩ 1 1 [.int .i32 c] rfl rfl ?a1 ?a2 ?a3 ?a4 ?_) | fail)
              case a1 =>
                have e : (w5.setCell ⟨p, 1, none⟩ (.int .i64 ((j : Int) + 1))).heap.size = w5.heap.size := by simp [World.setCell]
                have h := cell_made (w5.setCell ⟨p, 1, none⟩ (.int .i64 ((j : Int) + 1))) #[.int .i32 c] 21 (0, 0) 0
                rw [e] at h
                exact cells_one h
              case a2 =>
                intro u hu
                simp at hu
                subst hu
                rfl
              case a3 => have := HM6.out.len; omega
              case a4 => exact Nat.le_trans hsz6 (by simp)
              intro v8 w8 ho8 hg8
              have hrow8 : ∀ q, (Value.slice ta acc.length tc).ownBlock = some q → w.heap.size ≤ q := fun q hq => (HO6.out.lt q hq).1
              have hbw8 : But p w w8 := (hbw6.below ((Below.refl _ _).alloc (Nat.le_refl _) _)).grown hg8 hrow8
              have hS8 := (HM6.out.below ((Below.refl _ _).alloc (Nat.le_refl _) _)).grown hg8 (fun q hq => by have := hrow8 q hq; omega)
              have HS8 := Lib.hid hS8
              have HO8 := Lib.hid (show w8.ownsRow w.heap.size 21 1 v8 (acc ++ [c]).length ((acc ++ [c]).map (Value.int .i32)) by simpa using ho8)
              clear ho8 hg8 hS8
              go_wp2
              go_roundw
              case rel => exact ⟨j + 1, c, acc ++ [c], by omega, rfl, HS8.out, hbw8, HO8.out, by simp; omega, by rw [← HA1.out, HQQ.out, HC.out]; simp, by rw [← HA2.out, HQQ.out]; omega⟩
              case measure => rw [atOf_syn HS8.out, atOf_syn HS.out]; omega
          · have HX := Lib.hid (quote_end (rs := rs) (j := j) (by omega))
            have HNE := Lib.hid (next_end (rs := rs) (i := j) (by omega))
            have hcv := runes_text HO4.out
            rw [HNE.out]
            go_wp2
            go_ret
            have he := HE.out
            rw [HE1.out, HE2.out] at he
            have e1 := HA1.out
            have e2 := HA2.out
            rw [HX.out] at e1 e2
            cases he
            exact ⟨by rw [← e1]; first | (simp; done) | (simp; rfl), by rw [← e2]; exact HS4.out, hbw4⟩
  · have hq2 : (q != 39) = true := by simpa using hq39
    have hT2 := HT.out
    unfold textT at hT2
    rw [if_pos (by rw [HQ.out]; exact hq39)] at hT2
    have HT2 := Lib.hid hT2
    clear hT2
    go_wp2
    go_ret
    have h := HT2.out
    rw [HQ.out] at h
    cases h
    exact ⟨rfl, by rw [HW.out]; exact HM.out, by rw [HW.out]; exact hbut⟩
end Go.Proofs.YtdelpialeajajaaGreatDoor
