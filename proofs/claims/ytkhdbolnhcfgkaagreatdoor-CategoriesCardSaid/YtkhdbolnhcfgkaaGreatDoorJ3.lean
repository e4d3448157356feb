import Derived.Test.YtkhdbolnhcfgkaaGreatDoorJ2

/- The document's rules: ranges between commas. Printed by wip/mkS11.py. -/
namespace Go.Proofs.YtkhdbolnhcfgkaaGreatDoor
open Go Go.RowKit
set_option maxRecDepth 10000

theorem partsGo_ne (m : Wd) : ∀ (l cur : List Wd), partsGo m cur l ≠ []
  | [], cur => by simp [partsGo]
  | x :: t, cur => by
    unfold partsGo
    split
    · simp
    · exact partsGo_ne m t _

theorem partsGo_sub (m : Wd) : ∀ (l cur : List Wd) {p : List Wd} {x : Wd}, p ∈ partsGo m cur l → x ∈ p → x ∈ cur ∨ x ∈ l
  | [], cur, p, x, h, hx => by
    simp only [partsGo, List.mem_singleton] at h
    subst h
    exact .inl hx
  | y :: t, cur, p, x, h, hx => by
    unfold partsGo at h
    split at h
    · rcases List.mem_cons.1 h with rfl | h
      · exact .inl hx
      · rcases partsGo_sub m t [] h hx with q | q
        · cases q
        · exact .inr (List.mem_cons_of_mem _ q)
    · rcases partsGo_sub m t _ h hx with q | q
      · rcases List.mem_append.1 q with q | q
        · exact .inl q
        · simp only [List.mem_singleton] at q
          subst q
          exact .inr (List.mem_cons_self ..)
      · exact .inr (List.mem_cons_of_mem _ q)

theorem partsGo_small (m : Wd) : ∀ (l cur : List Wd) {p : List Wd}, p ∈ partsGo m cur l → p.length ≤ cur.length + l.length
  | [], cur, p, h => by
    simp only [partsGo, List.mem_singleton] at h
    subst h
    simp
  | y :: t, cur, p, h => by
    unfold partsGo at h
    split at h
    · rcases List.mem_cons.1 h with rfl | h
      · simp
      · have := partsGo_small m t [] h
        simp at this ⊢
        omega
    · have := partsGo_small m t _ h
      simp at this ⊢
      omega

theorem partsGo_count (m : Wd) : ∀ (l cur : List Wd), (partsGo m cur l).length ≤ l.length + 1
  | [], cur => by simp [partsGo]
  | y :: t, cur => by
    unfold partsGo
    split
    · have := partsGo_count m t []
      simp
      omega
    · have := partsGo_count m t (cur ++ [y])
      simp
      omega

/-- where a list of lists lies -/
theorem PartsAt.rows {w0 w : World} {base : Nat} {v : Value} {ps : List (List Wd)} (h : PartsAt w0 w base v ps) (hne : ps ≠ []) :
    ∃ g cap, v = .slice (some ⟨g, 0, none⟩) ps.length cap ∧ ps.length ≤ cap ∧ cap ≤ maxLen ∧ base ≤ g ∧ ∀ j (h : j < ps.length), ∃ u, w.cell? ⟨g, j, none⟩ = some u ∧ StrsAt w0 u ps[j] := by
  obtain ⟨vs, ho, hp⟩ := h
  have hl : 0 < ps.length := List.length_pos_iff.2 hne
  rcases ho.2 with ⟨hv, h0⟩ | ⟨g, cap, cur, hv, hg, hh, h1, h2, _, ht⟩
  · omega
  · refine ⟨g, cap, hv, by omega, h2, hg, fun j hj => ?_⟩
    obtain ⟨u, hu, hs⟩ := hp j hj
    refine ⟨u, ?_, hs⟩
    subst hv
    rw [ho.cellAt j (by omega)]
    exact hu

theorem head_at (ps : List (List Wd)) (h : 0 < ps.length) : ps.headD [] = ps[0] := by
  cases ps with
  | nil => exact absurd h (by decide)
  | cons a t => rfl

theorem brk_not (l : Wd) : brk l = !(l.all (· == 48)) := by
  unfold brk
  rw [List.not_all_eq_any_not]
  rfl

/-- the loop's relation -/
def LsRel (wi : Bool) (A : Wd) (br : Bool) (ps : List (List Wd)) (W1 : World) (v i : Value) (wr : World) : Prop :=
  ∃ (k : Nat) (b : Bool), k ≤ ps.length ∧ i = .int .i64 k ∧ v = .bool b ∧ listedGo wi A br ps false = listedGo wi A br (ps.drop k) b ∧ Below W1.heap.size W1 wr

theorem ls_none {wi br : Bool} {A : Wd} {ps : List (List Wd)} {k : Nat} {b : Bool} (hlt : k < ps.length) (h : listedGo wi A br ps false = listedGo wi A br (ps.drop k) b) (ho : oneRange ps[k] = none) : listedGo wi A br ps false = none := by
  rw [h, List.drop_eq_getElem_cons hlt, listedGo, ho]

theorem ls_some {wi br : Bool} {A : Wd} {ps : List (List Wd)} {k : Nat} {b : Bool} {lo hi : Wd} (hlt : k < ps.length) (h : listedGo wi A br ps false = listedGo wi A br (ps.drop k) b) (ho : oneRange ps[k] = some (lo, hi)) :
    listedGo wi A br ps false = listedGo wi A br (ps.drop (k + 1)) (b || inB wi A br lo hi) := by
  rw [h, List.drop_eq_getElem_cons hlt, listedGo, ho]

theorem less_self : ∀ l : List UInt8, Op.bytesLess l l = false
  | [] => by simp [Op.bytesLess]
  | c :: t => by rw [Op.bytesLess, less_self t]; simp

theorem range_three {lo hi : Wd} (q : Bool) (h : (figB lo = true ∧ figB hi = true ∧ ¬ 0 < cmpL lo hi) ↔ q = true) {p : List Wd} (hp : (p = [lo, [46, 46], hi]) ∨ (p = [lo] ∧ lo = hi)) : oneRange p = if q = true then some (lo, hi) else none := by
  have hz : cmpL lo lo = 0 := by unfold cmpL; simp [less_self lo]
  rcases hp with rfl | ⟨rfl, rfl⟩
  · cases q <;> simp_all [oneRange]
  · cases q <;> simp_all [oneRange]

set_option maxHeartbeats 8000000 in
theorem listed_many (v : Value) (ws : List Wd) (a f : ByteArray) (wi : Bool) (w : World) (h : StrsAt w v ws) (hw : ws.length ≤ 1000000) (hx : ∀ x ∈ ws, x.length ≤ 1000000) (ha : a.size ≤ 1000000) (hf : f.size ≤ 1000000) :
    Calls Tryz.prog 52 #[v, .string a, .string f, .bool wi, .bool false] w fun e w' =>
      e = .returned (.tuple #[.bool ((listedGo wi a.data.toList (brk f.data.toList) (partsL [44] ws) false).getD false), .bool (listedGo wi a.data.toList (brk f.data.toList) (partsL [44] ws) false).isSome]) ∧ Below w.heap.size w w' := by
  have hsub : ∀ p ∈ partsL [44] ws, (∀ x ∈ p, x.length ≤ 1000000) ∧ p.length ≤ 1000000 := fun p hp => ⟨fun x hx' => by
    rcases partsGo_sub _ _ _ hp hx' with q | q
    · cases q
    · exact hx x q, by have := partsGo_small _ _ _ hp; simp at this; omega⟩
  have hcnt : (partsL [44] ws).length ≤ 1000001 := by have := partsGo_count [44] ws []; unfold partsL; omega
  have hpne : partsL [44] ws ≠ [] := partsGo_ne _ _ _
  have HPA := Lib.hid (parts_any ⟨#[44]⟩ v ws w h hw)
  generalize hps : partsL [44] ws = ps at *
  have hpseq : partsL (⟨#[44]⟩ : ByteArray).data.toList ws = ps := hps
  clear hps hx
  obtain ⟨br, hbr⟩ : ∃ br, brk f.data.toList = br := ⟨_, rfl⟩
  obtain ⟨R, hR⟩ : ∃ R, listedGo wi a.data.toList br ps false = R := ⟨_, rfl⟩
  rw [hbr, hR]
  have HBR := Lib.hid hbr
  have HRR := Lib.hid hR
  have HPS := Lib.hid hpseq
  have HSUB := Lib.hid hsub
  clear hR hbr hpseq hsub
  go_enter Tryz.func52, Tryz.ntmps52
  go_wp2_with fail
  refine HPA.out.mono ?_
  rintro e W1 ⟨⟨av, rfl, hpa⟩, hB⟩
  try rw [HPS.out] at hpa
  obtain ⟨g, cap, rfl, hcl, hcm, hg, hrow⟩ := hpa.rows hpne
  have HROW := Lib.hid hrow
  clear hpa hrow

  go_wp2_with fail
  refine (nought_any f _ (by omega)).mono ?_
  rw [show f.data.toList.all (· == 48) = !br from by rw [← HBR.out, brk_not, Bool.not_not]]
  rintro e w1 ⟨rfl, rfl⟩
  cases br
  · simp only [Bool.not_true, Bool.not_false]
    go_wp2
    go_loopw [13, 15] (fun v i wr => LsRel wi a.data.toList false ps W1 v i wr) (fun _ i _ => ps.length - (intOf i).toNat)
    case atStart => exact ⟨0, false, Nat.zero_le _, rfl, by simp, rfl, Below.refl _ _⟩
    case round =>
      obtain ⟨k, b, hk, rfl, rfl, hgo, hb⟩ := hrel
      have HG := Lib.hid hgo
      clear hgo
      by_cases hlt : k < ps.length
      · obtain ⟨u, hu, hst⟩ := HROW.out k hlt
        have hu2 : wr.cell? ⟨g, k, none⟩ = some u := (hb.cell (World.block_lt_of_cell? _ _ hu)).trans hu
        obtain ⟨hsz, hln⟩ := HSUB.out _ (List.getElem_mem hlt)
        obtain ⟨p, hp⟩ : ∃ p, ps[k] = p := ⟨_, rfl⟩
        rw [hp] at hst hsz hln
        have hwW : w.heap.size ≤ wr.heap.size := Nat.le_trans hB.size hb.size
        obtain ⟨ad, cp, rfl, hl, hm, h0, hc⟩ := hst
        have hn1 := fun (q : ¬ p.length = 1) (q3 : ¬ p.length = 3) => (show oneRange p = none by
          match p, q, q3 with
          | [], _, _ => rfl
          | [_], q, _ => exact absurd rfl q
          | [_, _], _, _ => rfl
          | [_, _, _], _, q3 => exact absurd rfl q3
          | _ :: _ :: _ :: _ :: _, _, _ => rfl)
        by_cases l1 : p.length = 1
        · obtain ⟨lo, rfl⟩ : ∃ lo, p = [lo] := List.length_eq_one_iff.1 l1
          obtain ⟨y, rfl, hcy⟩ := hc 0 (by simp)
          have hcy0 : w.cell? y = some (strv lo) := by simpa [Addr.add] using hcy
          have hcy1 : wr.cell? y = some (strv lo) := ((hB.trans (hb.mono hB.size)).cell (World.block_lt_of_cell? _ _ hcy0)).trans hcy0
          have slo : (⟨lo.toArray⟩ : ByteArray).size ≤ 1000000 := hsz lo (by simp)
          obtain ⟨hi, hhi⟩ : ∃ hi, lo = hi := ⟨_, rfl⟩
          have shi : (⟨hi.toArray⟩ : ByteArray).size ≤ 1000000 := hhi ▸ slo
          have HP := Lib.hid (show (ps[k] = [lo, [46, 46], hi]) ∨ (ps[k] = [lo] ∧ lo = hi) from .inr ⟨hp, hhi⟩)
          have HHI := Lib.hid hhi
          clear hc hcy hcy0 hsz hp hn1 hu hhi l1 hln h0
          go_wp2_with fail
          go_still_tail 6, (by kernel_rfl)
          refine list_gen ?_
          intro W0 hW0
          have hbW0 : Below wr.heap.size wr W0 := by rw [hW0]; exact ⟨rfl, rfl, rfl, Nat.le_refl _, fun _ _ => rfl⟩
          clear hW0
          go_wp2_with fail
          refine calls_gen ?_
          intro W hW
          have hbW : Below wr.heap.size wr W := by rw [hW]; exact hbW0.alloc hbW0.size _
          have H0 : W.cell? ⟨W0.heap.size, 0, none⟩ = some (strv lo) := by rw [hW]; exact cell_made _ _ _ _ _
          have H1 : W.cell? ⟨W0.heap.size, 1, none⟩ = some (strv [46, 46]) := by rw [hW]; exact cell_made _ _ _ _ _
          have H2 : W.cell? ⟨W0.heap.size, 2, none⟩ = some (strv hi) := by rw [hW, ← HHI.out]; exact cell_made _ _ _ _ _
          clear hW
          have hbb2 := hB.trans ((hb.trans (hbW.mono hb.size)).mono hB.size)
          have hbW1 : Below W1.heap.size W1 W := hb.trans (hbW.mono hb.size)
          have HRG := Lib.hid (fun q h => range_three (lo := lo) (hi := hi) q h HP.out)
          cases hF1 : figB lo
          · have hnone : R = none := by
              rw [← HRR.out]
              refine ls_none hlt HG.out ?_
              rw [HRG.out false (by simp [hF1])]
              rfl
            have HN := Lib.hid hnone
            have HF1 := Lib.hid hF1
            clear hnone hF1
            refine (figure_any ⟨lo.toArray⟩ _ slo).mono ?_
            rw [show figB (⟨lo.toArray⟩ : ByteArray).data.toList = false from HF1.out]
            rintro e w2 ⟨rfl, hd2⟩
            have hb2 : Below W.heap.size W w2 := by obtain ⟨n, rfl⟩ := hd2; exact below_drewN (Below.refl _ _) n
            have c2 := (hb2.cell (World.block_lt_of_cell? _ _ H2)).trans H2
            clear hd2
            go_wp2_with fail
            refine (figure_any ⟨hi.toArray⟩ _ shi).mono ?_
            generalize figB (⟨hi.toArray⟩ : ByteArray).data.toList = fh
            rintro e w3 ⟨rfl, hd3⟩
            have hb3 : Below w2.heap.size w2 w3 := by obtain ⟨n, rfl⟩ := hd3; exact below_drewN (Below.refl _ _) n
            have hbz := hbb2.trans ((hb2.trans (hb3.mono hb2.size)).mono hbb2.size)
            clear hd3 c2
            go_wp2
            go_ret2
            exact ⟨by rw [HN.out]; rfl, hbz⟩
          cases hF2 : figB hi
          · have hnone : R = none := by
              rw [← HRR.out]
              refine ls_none hlt HG.out ?_
              rw [HRG.out false (by simp [hF2])]
              rfl
            have HN := Lib.hid hnone
            have HF1 := Lib.hid hF1
            have HF2 := Lib.hid hF2
            clear hnone hF1 hF2
            refine (figure_any ⟨lo.toArray⟩ _ slo).mono ?_
            rw [show figB (⟨lo.toArray⟩ : ByteArray).data.toList = true from HF1.out]
            rintro e w2 ⟨rfl, hd2⟩
            have hb2 : Below W.heap.size W w2 := by obtain ⟨n, rfl⟩ := hd2; exact below_drewN (Below.refl _ _) n
            have c2 := (hb2.cell (World.block_lt_of_cell? _ _ H2)).trans H2
            clear hd2
            go_wp2_with fail
            refine (figure_any ⟨hi.toArray⟩ _ shi).mono ?_
            rw [show figB (⟨hi.toArray⟩ : ByteArray).data.toList = false from HF2.out]
            rintro e w3 ⟨rfl, hd3⟩
            have hb3 : Below w2.heap.size w2 w3 := by obtain ⟨n, rfl⟩ := hd3; exact below_drewN (Below.refl _ _) n
            have hbz := hbb2.trans ((hb2.trans (hb3.mono hb2.size)).mono hbb2.size)
            clear hd3 c2
            go_wp2
            go_ret2
            exact ⟨by rw [HN.out]; rfl, hbz⟩
          have HF1 := Lib.hid hF1
          have HF2 := Lib.hid hF2
          obtain ⟨L0, hL0⟩ : ∃ L0, cmpL lo hi = L0 := ⟨_, rfl⟩
          have HL0 := Lib.hid hL0
          by_cases hp0 : 0 < L0
          · have hnone : R = none := by
              rw [← HRR.out]
              refine ls_none hlt HG.out ?_
              rw [HRG.out false (by simp [hL0, hp0])]
              rfl
            have HN := Lib.hid hnone
            have hp0' : decide (0 < L0) = true := by simpa using hp0
            clear hnone hF1 hF2 hL0
            refine (figure_any ⟨lo.toArray⟩ _ slo).mono ?_
            rw [show figB (⟨lo.toArray⟩ : ByteArray).data.toList = true from HF1.out]
            rintro e w2 ⟨rfl, hd2⟩
            have hb2 : Below W.heap.size W w2 := by obtain ⟨n, rfl⟩ := hd2; exact below_drewN (Below.refl _ _) n
            have c2 := (hb2.cell (World.block_lt_of_cell? _ _ H2)).trans H2
            clear hd2
            go_wp2_with fail
            refine (figure_any ⟨hi.toArray⟩ _ shi).mono ?_
            rw [show figB (⟨hi.toArray⟩ : ByteArray).data.toList = true from HF2.out]
            rintro e w3 ⟨rfl, hd3⟩
            have hb3 : Below w2.heap.size w2 w3 := by obtain ⟨n, rfl⟩ := hd3; exact below_drewN (Below.refl _ _) n
            have hbz := hbb2.trans ((hb2.trans (hb3.mono hb2.size)).mono hbb2.size)
            clear hd3 c2
            go_wp2_with fail
            refine (compared_any ⟨lo.toArray⟩ ⟨hi.toArray⟩ _ slo shi).mono ?_
            rw [show cmpL (⟨lo.toArray⟩ : ByteArray).data.toList (⟨hi.toArray⟩ : ByteArray).data.toList = L0 from HL0.out]
            rintro e w4 ⟨rfl, rfl⟩
            go_wp2
            go_ret2
            exact ⟨by rw [HN.out]; rfl, hbz⟩
          obtain ⟨L1, hL1⟩ : ∃ L1, cmpL a.data.toList lo = L1 := ⟨_, rfl⟩
          obtain ⟨L2, hL2⟩ : ∃ L2, cmpL a.data.toList hi = L2 := ⟨_, rfl⟩
          have hsome : listedGo wi a.data.toList false ps false = listedGo wi a.data.toList false (ps.drop (k + 1)) (b || inB wi a.data.toList false lo hi) := by
            refine ls_some hlt HG.out ?_
            rw [HRG.out true (by simp [hF1, hF2, hL0, hp0])]
            rfl
          unfold inB at hsome
          rw [hL1, hL2] at hsome
          have HL1 := Lib.hid hL1
          have HL2 := Lib.hid hL2
          have HS := Lib.hid hsome
          have hp0' : decide (0 < L0) = false := by simpa using hp0
          clear hF1 hF2 hL0 hL1 hL2 hsome
          refine (figure_any ⟨lo.toArray⟩ _ slo).mono ?_
          rw [show figB (⟨lo.toArray⟩ : ByteArray).data.toList = true from HF1.out]
          rintro e w2 ⟨rfl, hd2⟩
          have hb2 : Below W.heap.size W w2 := by obtain ⟨n, rfl⟩ := hd2; exact below_drewN (Below.refl _ _) n
          have c2 := (hb2.cell (World.block_lt_of_cell? _ _ H2)).trans H2
          clear hd2
          go_wp2_with fail
          refine (figure_any ⟨hi.toArray⟩ _ shi).mono ?_
          rw [show figB (⟨hi.toArray⟩ : ByteArray).data.toList = true from HF2.out]
          rintro e w3 ⟨rfl, hd3⟩
          have hb3 : Below w2.heap.size w2 w3 := by obtain ⟨n, rfl⟩ := hd3; exact below_drewN (Below.refl _ _) n
          have hbz := hbW1.trans ((hb2.trans (hb3.mono hb2.size)).mono hbW1.size)
          clear hd3 c2
          go_wp2_with fail
          refine (compared_any ⟨lo.toArray⟩ ⟨hi.toArray⟩ _ slo shi).mono ?_
          rw [show cmpL (⟨lo.toArray⟩ : ByteArray).data.toList (⟨hi.toArray⟩ : ByteArray).data.toList = L0 from HL0.out]
          rintro e w4 ⟨rfl, rfl⟩
          go_wp2_with fail
          refine (compared_any a ⟨lo.toArray⟩ _ ha slo).mono ?_
          rw [show cmpL a.data.toList (⟨lo.toArray⟩ : ByteArray).data.toList = L1 from HL1.out]
          rintro e w4 ⟨rfl, rfl⟩
          go_wp2_with fail
          refine (compared_any a ⟨hi.toArray⟩ _ ha shi).mono ?_
          rw [show cmpL a.data.toList (⟨hi.toArray⟩ : ByteArray).data.toList = L2 from HL2.out]
          rintro e w4 ⟨rfl, rfl⟩
          by_cases q1 : 0 ≤ L1
          · have q1' : decide (0 ≤ L1) = true := by simpa using q1
            rcases Int.lt_trichotomy L2 0 with q2 | q2 | q2
            · have q2' : decide (L2 < 0) = true := by simpa using q2
              have HV := Lib.hid (show (b || (decide (0 ≤ L1) && ((decide (L2 < 0) || (decide (L2 = 0) && !false)) && (wi || !false)))) = (b || (wi || !false)) by rw [q1', q2']; simp)
              cases wi <;>
              · go_wp2
                go_roundw
                case rel => exact ⟨k + 1, _, by omega, by go_num, rfl, HS.out.trans (by rw [HV.out]; try (cases b <;> rfl)), hbz⟩
                case measure => simp [intOf]; omega
            · subst q2
              have HV := Lib.hid (show (b || (decide (0 ≤ L1) && ((decide ((0 : Int) < 0) || (decide ((0 : Int) = 0) && !false)) && (wi || !false)))) = (b || !false) by rw [q1']; cases wi <;> simp)
              cases wi <;>
              · go_wp2
                go_roundw
                case rel => exact ⟨k + 1, _, by omega, by go_num, rfl, HS.out.trans (by rw [HV.out]; try (cases b <;> rfl)), hbz⟩
                case measure => simp [intOf]; omega
            · have q2' : decide (L2 < 0) = false := by simp; omega
              have q2'' : (L2 == 0) = false := by simp; omega
              have q3 : ¬ L2 < 0 := by omega
              have q4 : ¬ L2 = 0 := by omega
              have HV := Lib.hid (show (b || (decide (0 ≤ L1) && ((decide (L2 < 0) || (decide (L2 = 0) && !false)) && (wi || !false)))) = b by rw [q1', q2']; simp [q4])
              go_wp2
              go_roundw
              case rel => exact ⟨k + 1, _, by omega, by go_num, rfl, HS.out.trans (by rw [HV.out]), hbz⟩
              case measure => simp [intOf]; omega
          · have q1' : decide (0 ≤ L1) = false := by simpa using q1
            have HV := Lib.hid (show (b || (decide (0 ≤ L1) && ((decide (L2 < 0) || (decide (L2 = 0) && !false)) && (wi || !false)))) = b by rw [q1']; simp)
            go_wp2
            go_roundw
            case rel => exact ⟨k + 1, _, by omega, by go_num, rfl, HS.out.trans (by rw [HV.out]), hbz⟩
            case measure => simp [intOf]; omega
        · by_cases l3 : p.length = 3
          · obtain ⟨lo, d, hi, rfl⟩ : ∃ lo d hi, p = [lo, d, hi] := (by match p, l3 with | [lo, d, hi], _ => exact ⟨lo, d, hi, rfl⟩)
            obtain ⟨y, rfl, hcy⟩ := hc 0 (by simp)
            obtain ⟨y2, hy2, hcz⟩ := hc 1 (by simp)
            obtain ⟨y3, hy3, hcx⟩ := hc 2 (by simp)
            obtain rfl := Option.some.inj hy2
            obtain rfl := Option.some.inj hy3
            have hbb := hB.trans (hb.mono hB.size)
            have H0 : wr.cell? y = some (strv lo) := (hbb.cell (World.block_lt_of_cell? _ _ (by simpa [Addr.add] using hcy))).trans (by simpa [Addr.add] using hcy)
            have H1 : wr.cell? ⟨y.block, y.off + 1, none⟩ = some (strv d) := (hbb.cell (World.block_lt_of_cell? _ _ (by simpa [Addr.add] using hcz))).trans (by simpa [Addr.add] using hcz)
            have H2 : wr.cell? ⟨y.block, y.off + 2, none⟩ = some (strv hi) := (hbb.cell (World.block_lt_of_cell? _ _ (by simpa [Addr.add] using hcx))).trans (by simpa [Addr.add] using hcx)
            have slo : (⟨lo.toArray⟩ : ByteArray).size ≤ 1000000 := hsz lo (by simp)
            have shi : (⟨hi.toArray⟩ : ByteArray).size ≤ 1000000 := hsz hi (by simp)
            clear hc hcy hcz hcx hsz hn1 hu l1 l3 hln h0
            by_cases hd : d = [46, 46]
            · subst hd
              have HP := Lib.hid (show (ps[k] = [lo, [46, 46], hi]) ∨ (ps[k] = [lo] ∧ lo = hi) from .inl hp)
              clear hp
              refine wp_gen ?_
              intro W hW
              have hbW : Below wr.heap.size wr W := by rw [hW]; exact Below.refl _ _
              subst hW
              have hbb2 := hB.trans ((hb.trans (hbW.mono hb.size)).mono hB.size)
              have hbW1 : Below W1.heap.size W1 W := hb.trans (hbW.mono hb.size)
              have HRG := Lib.hid (fun q h => range_three (lo := lo) (hi := hi) q h HP.out)
              cases hF1 : figB lo
              · have hnone : R = none := by
                  rw [← HRR.out]
                  refine ls_none hlt HG.out ?_
                  rw [HRG.out false (by simp [hF1])]
                  rfl
                have HN := Lib.hid hnone
                have HF1 := Lib.hid hF1
                clear hnone hF1
                go_wp2_with fail
                refine (figure_any ⟨lo.toArray⟩ _ slo).mono ?_
                rw [show figB (⟨lo.toArray⟩ : ByteArray).data.toList = false from HF1.out]
                rintro e w2 ⟨rfl, hd2⟩
                have hb2 : Below W.heap.size W w2 := by obtain ⟨n, rfl⟩ := hd2; exact below_drewN (Below.refl _ _) n
                have c2 := (hb2.cell (World.block_lt_of_cell? _ _ H2)).trans H2
                clear hd2
                go_wp2_with fail
                refine (figure_any ⟨hi.toArray⟩ _ shi).mono ?_
                generalize figB (⟨hi.toArray⟩ : ByteArray).data.toList = fh
                rintro e w3 ⟨rfl, hd3⟩
                have hb3 : Below w2.heap.size w2 w3 := by obtain ⟨n, rfl⟩ := hd3; exact below_drewN (Below.refl _ _) n
                have hbz := hbb2.trans ((hb2.trans (hb3.mono hb2.size)).mono hbb2.size)
                clear hd3 c2
                go_wp2
                go_ret2
                exact ⟨by rw [HN.out]; rfl, hbz⟩
              cases hF2 : figB hi
              · have hnone : R = none := by
                  rw [← HRR.out]
                  refine ls_none hlt HG.out ?_
                  rw [HRG.out false (by simp [hF2])]
                  rfl
                have HN := Lib.hid hnone
                have HF1 := Lib.hid hF1
                have HF2 := Lib.hid hF2
                clear hnone hF1 hF2
                go_wp2_with fail
                refine (figure_any ⟨lo.toArray⟩ _ slo).mono ?_
                rw [show figB (⟨lo.toArray⟩ : ByteArray).data.toList = true from HF1.out]
                rintro e w2 ⟨rfl, hd2⟩
                have hb2 : Below W.heap.size W w2 := by obtain ⟨n, rfl⟩ := hd2; exact below_drewN (Below.refl _ _) n
                have c2 := (hb2.cell (World.block_lt_of_cell? _ _ H2)).trans H2
                clear hd2
                go_wp2_with fail
                refine (figure_any ⟨hi.toArray⟩ _ shi).mono ?_
                rw [show figB (⟨hi.toArray⟩ : ByteArray).data.toList = false from HF2.out]
                rintro e w3 ⟨rfl, hd3⟩
                have hb3 : Below w2.heap.size w2 w3 := by obtain ⟨n, rfl⟩ := hd3; exact below_drewN (Below.refl _ _) n
                have hbz := hbb2.trans ((hb2.trans (hb3.mono hb2.size)).mono hbb2.size)
                clear hd3 c2
                go_wp2
                go_ret2
                exact ⟨by rw [HN.out]; rfl, hbz⟩
              have HF1 := Lib.hid hF1
              have HF2 := Lib.hid hF2
              obtain ⟨L0, hL0⟩ : ∃ L0, cmpL lo hi = L0 := ⟨_, rfl⟩
              have HL0 := Lib.hid hL0
              by_cases hp0 : 0 < L0
              · have hnone : R = none := by
                  rw [← HRR.out]
                  refine ls_none hlt HG.out ?_
                  rw [HRG.out false (by simp [hL0, hp0])]
                  rfl
                have HN := Lib.hid hnone
                have hp0' : decide (0 < L0) = true := by simpa using hp0
                clear hnone hF1 hF2 hL0
                go_wp2_with fail
                refine (figure_any ⟨lo.toArray⟩ _ slo).mono ?_
                rw [show figB (⟨lo.toArray⟩ : ByteArray).data.toList = true from HF1.out]
                rintro e w2 ⟨rfl, hd2⟩
                have hb2 : Below W.heap.size W w2 := by obtain ⟨n, rfl⟩ := hd2; exact below_drewN (Below.refl _ _) n
                have c2 := (hb2.cell (World.block_lt_of_cell? _ _ H2)).trans H2
                clear hd2
                go_wp2_with fail
                refine (figure_any ⟨hi.toArray⟩ _ shi).mono ?_
                rw [show figB (⟨hi.toArray⟩ : ByteArray).data.toList = true from HF2.out]
                rintro e w3 ⟨rfl, hd3⟩
                have hb3 : Below w2.heap.size w2 w3 := by obtain ⟨n, rfl⟩ := hd3; exact below_drewN (Below.refl _ _) n
                have hbz := hbb2.trans ((hb2.trans (hb3.mono hb2.size)).mono hbb2.size)
                clear hd3 c2
                go_wp2_with fail
                refine (compared_any ⟨lo.toArray⟩ ⟨hi.toArray⟩ _ slo shi).mono ?_
                rw [show cmpL (⟨lo.toArray⟩ : ByteArray).data.toList (⟨hi.toArray⟩ : ByteArray).data.toList = L0 from HL0.out]
                rintro e w4 ⟨rfl, rfl⟩
                go_wp2
                go_ret2
                exact ⟨by rw [HN.out]; rfl, hbz⟩
              obtain ⟨L1, hL1⟩ : ∃ L1, cmpL a.data.toList lo = L1 := ⟨_, rfl⟩
              obtain ⟨L2, hL2⟩ : ∃ L2, cmpL a.data.toList hi = L2 := ⟨_, rfl⟩
              have hsome : listedGo wi a.data.toList false ps false = listedGo wi a.data.toList false (ps.drop (k + 1)) (b || inB wi a.data.toList false lo hi) := by
                refine ls_some hlt HG.out ?_
                rw [HRG.out true (by simp [hF1, hF2, hL0, hp0])]
                rfl
              unfold inB at hsome
              rw [hL1, hL2] at hsome
              have HL1 := Lib.hid hL1
              have HL2 := Lib.hid hL2
              have HS := Lib.hid hsome
              have hp0' : decide (0 < L0) = false := by simpa using hp0
              clear hF1 hF2 hL0 hL1 hL2 hsome
              go_wp2_with fail
              refine (figure_any ⟨lo.toArray⟩ _ slo).mono ?_
              rw [show figB (⟨lo.toArray⟩ : ByteArray).data.toList = true from HF1.out]
              rintro e w2 ⟨rfl, hd2⟩
              have hb2 : Below W.heap.size W w2 := by obtain ⟨n, rfl⟩ := hd2; exact below_drewN (Below.refl _ _) n
              have c2 := (hb2.cell (World.block_lt_of_cell? _ _ H2)).trans H2
              clear hd2
              go_wp2_with fail
              refine (figure_any ⟨hi.toArray⟩ _ shi).mono ?_
              rw [show figB (⟨hi.toArray⟩ : ByteArray).data.toList = true from HF2.out]
              rintro e w3 ⟨rfl, hd3⟩
              have hb3 : Below w2.heap.size w2 w3 := by obtain ⟨n, rfl⟩ := hd3; exact below_drewN (Below.refl _ _) n
              have hbz := hbW1.trans ((hb2.trans (hb3.mono hb2.size)).mono hbW1.size)
              clear hd3 c2
              go_wp2_with fail
              refine (compared_any ⟨lo.toArray⟩ ⟨hi.toArray⟩ _ slo shi).mono ?_
              rw [show cmpL (⟨lo.toArray⟩ : ByteArray).data.toList (⟨hi.toArray⟩ : ByteArray).data.toList = L0 from HL0.out]
              rintro e w4 ⟨rfl, rfl⟩
              go_wp2_with fail
              refine (compared_any a ⟨lo.toArray⟩ _ ha slo).mono ?_
              rw [show cmpL a.data.toList (⟨lo.toArray⟩ : ByteArray).data.toList = L1 from HL1.out]
              rintro e w4 ⟨rfl, rfl⟩
              go_wp2_with fail
              refine (compared_any a ⟨hi.toArray⟩ _ ha shi).mono ?_
              rw [show cmpL a.data.toList (⟨hi.toArray⟩ : ByteArray).data.toList = L2 from HL2.out]
              rintro e w4 ⟨rfl, rfl⟩
              by_cases q1 : 0 ≤ L1
              · have q1' : decide (0 ≤ L1) = true := by simpa using q1
                rcases Int.lt_trichotomy L2 0 with q2 | q2 | q2
                · have q2' : decide (L2 < 0) = true := by simpa using q2
                  have HV := Lib.hid (show (b || (decide (0 ≤ L1) && ((decide (L2 < 0) || (decide (L2 = 0) && !false)) && (wi || !false)))) = (b || (wi || !false)) by rw [q1', q2']; simp)
                  cases wi <;>
                  · go_wp2
                    go_roundw
                    case rel => exact ⟨k + 1, _, by omega, by go_num, rfl, HS.out.trans (by rw [HV.out]; try (cases b <;> rfl)), hbz⟩
                    case measure => simp [intOf]; omega
                · subst q2
                  have HV := Lib.hid (show (b || (decide (0 ≤ L1) && ((decide ((0 : Int) < 0) || (decide ((0 : Int) = 0) && !false)) && (wi || !false)))) = (b || !false) by rw [q1']; cases wi <;> simp)
                  cases wi <;>
                  · go_wp2
                    go_roundw
                    case rel => exact ⟨k + 1, _, by omega, by go_num, rfl, HS.out.trans (by rw [HV.out]; try (cases b <;> rfl)), hbz⟩
                    case measure => simp [intOf]; omega
                · have q2' : decide (L2 < 0) = false := by simp; omega
                  have q2'' : (L2 == 0) = false := by simp; omega
                  have q3 : ¬ L2 < 0 := by omega
                  have q4 : ¬ L2 = 0 := by omega
                  have HV := Lib.hid (show (b || (decide (0 ≤ L1) && ((decide (L2 < 0) || (decide (L2 = 0) && !false)) && (wi || !false)))) = b by rw [q1', q2']; simp [q4])
                  go_wp2
                  go_roundw
                  case rel => exact ⟨k + 1, _, by omega, by go_num, rfl, HS.out.trans (by rw [HV.out]), hbz⟩
                  case measure => simp [intOf]; omega
              · have q1' : decide (0 ≤ L1) = false := by simpa using q1
                have HV := Lib.hid (show (b || (decide (0 ≤ L1) && ((decide (L2 < 0) || (decide (L2 = 0) && !false)) && (wi || !false)))) = b by rw [q1']; simp)
                go_wp2
                go_roundw
                case rel => exact ⟨k + 1, _, by omega, by go_num, rfl, HS.out.trans (by rw [HV.out]), hbz⟩
                case measure => simp [intOf]; omega
            · have hnone : R = none := by
                rw [← HRR.out]
                refine ls_none hlt HG.out ?_
                rw [hp]
                simp [oneRange, hd]
              have HN := Lib.hid hnone
              have hd2 : (d == [46, 46]) = false := by simpa using hd
              clear hp hnone hd
              go_wp2
              go_ret2
              exact ⟨by rw [HN.out]; rfl, hB.trans (hb.mono hB.size)⟩
          · have hnone : R = none := by
              rw [← HRR.out]
              refine ls_none hlt HG.out ?_
              rw [hp]
              exact hn1 l1 l3
            have HN := Lib.hid hnone
            have hq1 : ((p.length : Int) == 1) = false := by simp; omega
            have hq3 : ((p.length : Int) == 3) = false := by simp; omega
            clear hp hnone hn1 hc hsz hu h0
            generalize p.length = pl at *
            go_wp2
            go_ret2
            exact ⟨by rw [HN.out]; rfl, hB.trans (hb.mono hB.size)⟩
      · obtain rfl : k = ps.length := by omega
        have hgo := HG.out
        rw [List.drop_length, listedGo, HRR.out] at hgo
        have HF := Lib.hid hgo
        clear hgo
        go_wp2
        go_ret2
        exact ⟨by rw [HF.out]; rfl, hB.trans (hb.mono hB.size)⟩
  · simp only [Bool.not_true, Bool.not_false]
    go_wp2
    go_loopw [13, 15] (fun v i wr => LsRel wi a.data.toList true ps W1 v i wr) (fun _ i _ => ps.length - (intOf i).toNat)
    case atStart => exact ⟨0, false, Nat.zero_le _, rfl, by simp, rfl, Below.refl _ _⟩
    case round =>
      obtain ⟨k, b, hk, rfl, rfl, hgo, hb⟩ := hrel
      have HG := Lib.hid hgo
      clear hgo
      by_cases hlt : k < ps.length
      · obtain ⟨u, hu, hst⟩ := HROW.out k hlt
        have hu2 : wr.cell? ⟨g, k, none⟩ = some u := (hb.cell (World.block_lt_of_cell? _ _ hu)).trans hu
        obtain ⟨hsz, hln⟩ := HSUB.out _ (List.getElem_mem hlt)
        obtain ⟨p, hp⟩ : ∃ p, ps[k] = p := ⟨_, rfl⟩
        rw [hp] at hst hsz hln
        have hwW : w.heap.size ≤ wr.heap.size := Nat.le_trans hB.size hb.size
        obtain ⟨ad, cp, rfl, hl, hm, h0, hc⟩ := hst
        have hn1 := fun (q : ¬ p.length = 1) (q3 : ¬ p.length = 3) => (show oneRange p = none by
          match p, q, q3 with
          | [], _, _ => rfl
          | [_], q, _ => exact absurd rfl q
          | [_, _], _, _ => rfl
          | [_, _, _], _, q3 => exact absurd rfl q3
          | _ :: _ :: _ :: _ :: _, _, _ => rfl)
        by_cases l1 : p.length = 1
        · obtain ⟨lo, rfl⟩ : ∃ lo, p = [lo] := List.length_eq_one_iff.1 l1
          obtain ⟨y, rfl, hcy⟩ := hc 0 (by simp)
          have hcy0 : w.cell? y = some (strv lo) := by simpa [Addr.add] using hcy
          have hcy1 : wr.cell? y = some (strv lo) := ((hB.trans (hb.mono hB.size)).cell (World.block_lt_of_cell? _ _ hcy0)).trans hcy0
          have slo : (⟨lo.toArray⟩ : ByteArray).size ≤ 1000000 := hsz lo (by simp)
          obtain ⟨hi, hhi⟩ : ∃ hi, lo = hi := ⟨_, rfl⟩
          have shi : (⟨hi.toArray⟩ : ByteArray).size ≤ 1000000 := hhi ▸ slo
          have HP := Lib.hid (show (ps[k] = [lo, [46, 46], hi]) ∨ (ps[k] = [lo] ∧ lo = hi) from .inr ⟨hp, hhi⟩)
          have HHI := Lib.hid hhi
          clear hc hcy hcy0 hsz hp hn1 hu hhi l1 hln h0
          go_wp2_with fail
          go_still_tail 6, (by kernel_rfl)
          refine list_gen ?_
          intro W0 hW0
          have hbW0 : Below wr.heap.size wr W0 := by rw [hW0]; exact ⟨rfl, rfl, rfl, Nat.le_refl _, fun _ _ => rfl⟩
          clear hW0
          go_wp2_with fail
          refine calls_gen ?_
          intro W hW
          have hbW : Below wr.heap.size wr W := by rw [hW]; exact hbW0.alloc hbW0.size _
          have H0 : W.cell? ⟨W0.heap.size, 0, none⟩ = some (strv lo) := by rw [hW]; exact cell_made _ _ _ _ _
          have H1 : W.cell? ⟨W0.heap.size, 1, none⟩ = some (strv [46, 46]) := by rw [hW]; exact cell_made _ _ _ _ _
          have H2 : W.cell? ⟨W0.heap.size, 2, none⟩ = some (strv hi) := by rw [hW, ← HHI.out]; exact cell_made _ _ _ _ _
          clear hW
          have hbb2 := hB.trans ((hb.trans (hbW.mono hb.size)).mono hB.size)
          have hbW1 : Below W1.heap.size W1 W := hb.trans (hbW.mono hb.size)
          have HRG := Lib.hid (fun q h => range_three (lo := lo) (hi := hi) q h HP.out)
          cases hF1 : figB lo
          · have hnone : R = none := by
              rw [← HRR.out]
              refine ls_none hlt HG.out ?_
              rw [HRG.out false (by simp [hF1])]
              rfl
            have HN := Lib.hid hnone
            have HF1 := Lib.hid hF1
            clear hnone hF1
            refine (figure_any ⟨lo.toArray⟩ _ slo).mono ?_
            rw [show figB (⟨lo.toArray⟩ : ByteArray).data.toList = false from HF1.out]
            rintro e w2 ⟨rfl, hd2⟩
            have hb2 : Below W.heap.size W w2 := by obtain ⟨n, rfl⟩ := hd2; exact below_drewN (Below.refl _ _) n
            have c2 := (hb2.cell (World.block_lt_of_cell? _ _ H2)).trans H2
            clear hd2
            go_wp2_with fail
            refine (figure_any ⟨hi.toArray⟩ _ shi).mono ?_
            generalize figB (⟨hi.toArray⟩ : ByteArray).data.toList = fh
            rintro e w3 ⟨rfl, hd3⟩
            have hb3 : Below w2.heap.size w2 w3 := by obtain ⟨n, rfl⟩ := hd3; exact below_drewN (Below.refl _ _) n
            have hbz := hbb2.trans ((hb2.trans (hb3.mono hb2.size)).mono hbb2.size)
            clear hd3 c2
            go_wp2
            go_ret2
            exact ⟨by rw [HN.out]; rfl, hbz⟩
          cases hF2 : figB hi
          · have hnone : R = none := by
              rw [← HRR.out]
              refine ls_none hlt HG.out ?_
              rw [HRG.out false (by simp [hF2])]
              rfl
            have HN := Lib.hid hnone
            have HF1 := Lib.hid hF1
            have HF2 := Lib.hid hF2
            clear hnone hF1 hF2
            refine (figure_any ⟨lo.toArray⟩ _ slo).mono ?_
            rw [show figB (⟨lo.toArray⟩ : ByteArray).data.toList = true from HF1.out]
            rintro e w2 ⟨rfl, hd2⟩
            have hb2 : Below W.heap.size W w2 := by obtain ⟨n, rfl⟩ := hd2; exact below_drewN (Below.refl _ _) n
            have c2 := (hb2.cell (World.block_lt_of_cell? _ _ H2)).trans H2
            clear hd2
            go_wp2_with fail
            refine (figure_any ⟨hi.toArray⟩ _ shi).mono ?_
            rw [show figB (⟨hi.toArray⟩ : ByteArray).data.toList = false from HF2.out]
            rintro e w3 ⟨rfl, hd3⟩
            have hb3 : Below w2.heap.size w2 w3 := by obtain ⟨n, rfl⟩ := hd3; exact below_drewN (Below.refl _ _) n
            have hbz := hbb2.trans ((hb2.trans (hb3.mono hb2.size)).mono hbb2.size)
            clear hd3 c2
            go_wp2
            go_ret2
            exact ⟨by rw [HN.out]; rfl, hbz⟩
          have HF1 := Lib.hid hF1
          have HF2 := Lib.hid hF2
          obtain ⟨L0, hL0⟩ : ∃ L0, cmpL lo hi = L0 := ⟨_, rfl⟩
          have HL0 := Lib.hid hL0
          by_cases hp0 : 0 < L0
          · have hnone : R = none := by
              rw [← HRR.out]
              refine ls_none hlt HG.out ?_
              rw [HRG.out false (by simp [hL0, hp0])]
              rfl
            have HN := Lib.hid hnone
            have hp0' : decide (0 < L0) = true := by simpa using hp0
            clear hnone hF1 hF2 hL0
            refine (figure_any ⟨lo.toArray⟩ _ slo).mono ?_
            rw [show figB (⟨lo.toArray⟩ : ByteArray).data.toList = true from HF1.out]
            rintro e w2 ⟨rfl, hd2⟩
            have hb2 : Below W.heap.size W w2 := by obtain ⟨n, rfl⟩ := hd2; exact below_drewN (Below.refl _ _) n
            have c2 := (hb2.cell (World.block_lt_of_cell? _ _ H2)).trans H2
            clear hd2
            go_wp2_with fail
            refine (figure_any ⟨hi.toArray⟩ _ shi).mono ?_
            rw [show figB (⟨hi.toArray⟩ : ByteArray).data.toList = true from HF2.out]
            rintro e w3 ⟨rfl, hd3⟩
            have hb3 : Below w2.heap.size w2 w3 := by obtain ⟨n, rfl⟩ := hd3; exact below_drewN (Below.refl _ _) n
            have hbz := hbb2.trans ((hb2.trans (hb3.mono hb2.size)).mono hbb2.size)
            clear hd3 c2
            go_wp2_with fail
            refine (compared_any ⟨lo.toArray⟩ ⟨hi.toArray⟩ _ slo shi).mono ?_
            rw [show cmpL (⟨lo.toArray⟩ : ByteArray).data.toList (⟨hi.toArray⟩ : ByteArray).data.toList = L0 from HL0.out]
            rintro e w4 ⟨rfl, rfl⟩
            go_wp2
            go_ret2
            exact ⟨by rw [HN.out]; rfl, hbz⟩
          obtain ⟨L1, hL1⟩ : ∃ L1, cmpL a.data.toList lo = L1 := ⟨_, rfl⟩
          obtain ⟨L2, hL2⟩ : ∃ L2, cmpL a.data.toList hi = L2 := ⟨_, rfl⟩
          have hsome : listedGo wi a.data.toList true ps false = listedGo wi a.data.toList true (ps.drop (k + 1)) (b || inB wi a.data.toList true lo hi) := by
            refine ls_some hlt HG.out ?_
            rw [HRG.out true (by simp [hF1, hF2, hL0, hp0])]
            rfl
          unfold inB at hsome
          rw [hL1, hL2] at hsome
          have HL1 := Lib.hid hL1
          have HL2 := Lib.hid hL2
          have HS := Lib.hid hsome
          have hp0' : decide (0 < L0) = false := by simpa using hp0
          clear hF1 hF2 hL0 hL1 hL2 hsome
          refine (figure_any ⟨lo.toArray⟩ _ slo).mono ?_
          rw [show figB (⟨lo.toArray⟩ : ByteArray).data.toList = true from HF1.out]
          rintro e w2 ⟨rfl, hd2⟩
          have hb2 : Below W.heap.size W w2 := by obtain ⟨n, rfl⟩ := hd2; exact below_drewN (Below.refl _ _) n
          have c2 := (hb2.cell (World.block_lt_of_cell? _ _ H2)).trans H2
          clear hd2
          go_wp2_with fail
          refine (figure_any ⟨hi.toArray⟩ _ shi).mono ?_
          rw [show figB (⟨hi.toArray⟩ : ByteArray).data.toList = true from HF2.out]
          rintro e w3 ⟨rfl, hd3⟩
          have hb3 : Below w2.heap.size w2 w3 := by obtain ⟨n, rfl⟩ := hd3; exact below_drewN (Below.refl _ _) n
          have hbz := hbW1.trans ((hb2.trans (hb3.mono hb2.size)).mono hbW1.size)
          clear hd3 c2
          go_wp2_with fail
          refine (compared_any ⟨lo.toArray⟩ ⟨hi.toArray⟩ _ slo shi).mono ?_
          rw [show cmpL (⟨lo.toArray⟩ : ByteArray).data.toList (⟨hi.toArray⟩ : ByteArray).data.toList = L0 from HL0.out]
          rintro e w4 ⟨rfl, rfl⟩
          go_wp2_with fail
          refine (compared_any a ⟨lo.toArray⟩ _ ha slo).mono ?_
          rw [show cmpL a.data.toList (⟨lo.toArray⟩ : ByteArray).data.toList = L1 from HL1.out]
          rintro e w4 ⟨rfl, rfl⟩
          go_wp2_with fail
          refine (compared_any a ⟨hi.toArray⟩ _ ha shi).mono ?_
          rw [show cmpL a.data.toList (⟨hi.toArray⟩ : ByteArray).data.toList = L2 from HL2.out]
          rintro e w4 ⟨rfl, rfl⟩
          by_cases q1 : 0 ≤ L1
          · have q1' : decide (0 ≤ L1) = true := by simpa using q1
            rcases Int.lt_trichotomy L2 0 with q2 | q2 | q2
            · have q2' : decide (L2 < 0) = true := by simpa using q2
              have HV := Lib.hid (show (b || (decide (0 ≤ L1) && ((decide (L2 < 0) || (decide (L2 = 0) && !true)) && (wi || !true)))) = (b || (wi || !true)) by rw [q1', q2']; simp)
              cases wi <;>
              · go_wp2
                go_roundw
                case rel => exact ⟨k + 1, _, by omega, by go_num, rfl, HS.out.trans (by rw [HV.out]; try (cases b <;> rfl)), hbz⟩
                case measure => simp [intOf]; omega
            · subst q2
              have HV := Lib.hid (show (b || (decide (0 ≤ L1) && ((decide ((0 : Int) < 0) || (decide ((0 : Int) = 0) && !true)) && (wi || !true)))) = (b || !true) by rw [q1']; cases wi <;> simp)
              cases wi <;>
              · go_wp2
                go_roundw
                case rel => exact ⟨k + 1, _, by omega, by go_num, rfl, HS.out.trans (by rw [HV.out]; try (cases b <;> rfl)), hbz⟩
                case measure => simp [intOf]; omega
            · have q2' : decide (L2 < 0) = false := by simp; omega
              have q2'' : (L2 == 0) = false := by simp; omega
              have q3 : ¬ L2 < 0 := by omega
              have q4 : ¬ L2 = 0 := by omega
              have HV := Lib.hid (show (b || (decide (0 ≤ L1) && ((decide (L2 < 0) || (decide (L2 = 0) && !true)) && (wi || !true)))) = b by rw [q1', q2']; simp [q4])
              go_wp2
              go_roundw
              case rel => exact ⟨k + 1, _, by omega, by go_num, rfl, HS.out.trans (by rw [HV.out]), hbz⟩
              case measure => simp [intOf]; omega
          · have q1' : decide (0 ≤ L1) = false := by simpa using q1
            have HV := Lib.hid (show (b || (decide (0 ≤ L1) && ((decide (L2 < 0) || (decide (L2 = 0) && !true)) && (wi || !true)))) = b by rw [q1']; simp)
            go_wp2
            go_roundw
            case rel => exact ⟨k + 1, _, by omega, by go_num, rfl, HS.out.trans (by rw [HV.out]), hbz⟩
            case measure => simp [intOf]; omega
        · by_cases l3 : p.length = 3
          · obtain ⟨lo, d, hi, rfl⟩ : ∃ lo d hi, p = [lo, d, hi] := (by match p, l3 with | [lo, d, hi], _ => exact ⟨lo, d, hi, rfl⟩)
            obtain ⟨y, rfl, hcy⟩ := hc 0 (by simp)
            obtain ⟨y2, hy2, hcz⟩ := hc 1 (by simp)
            obtain ⟨y3, hy3, hcx⟩ := hc 2 (by simp)
            obtain rfl := Option.some.inj hy2
            obtain rfl := Option.some.inj hy3
            have hbb := hB.trans (hb.mono hB.size)
            have H0 : wr.cell? y = some (strv lo) := (hbb.cell (World.block_lt_of_cell? _ _ (by simpa [Addr.add] using hcy))).trans (by simpa [Addr.add] using hcy)
            have H1 : wr.cell? ⟨y.block, y.off + 1, none⟩ = some (strv d) := (hbb.cell (World.block_lt_of_cell? _ _ (by simpa [Addr.add] using hcz))).trans (by simpa [Addr.add] using hcz)
            have H2 : wr.cell? ⟨y.block, y.off + 2, none⟩ = some (strv hi) := (hbb.cell (World.block_lt_of_cell? _ _ (by simpa [Addr.add] using hcx))).trans (by simpa [Addr.add] using hcx)
            have slo : (⟨lo.toArray⟩ : ByteArray).size ≤ 1000000 := hsz lo (by simp)
            have shi : (⟨hi.toArray⟩ : ByteArray).size ≤ 1000000 := hsz hi (by simp)
            clear hc hcy hcz hcx hsz hn1 hu l1 l3 hln h0
            by_cases hd : d = [46, 46]
            · subst hd
              have HP := Lib.hid (show (ps[k] = [lo, [46, 46], hi]) ∨ (ps[k] = [lo] ∧ lo = hi) from .inl hp)
              clear hp
              refine wp_gen ?_
              intro W hW
              have hbW : Below wr.heap.size wr W := by rw [hW]; exact Below.refl _ _
              subst hW
              have hbb2 := hB.trans ((hb.trans (hbW.mono hb.size)).mono hB.size)
              have hbW1 : Below W1.heap.size W1 W := hb.trans (hbW.mono hb.size)
              have HRG := Lib.hid (fun q h => range_three (lo := lo) (hi := hi) q h HP.out)
              cases hF1 : figB lo
              · have hnone : R = none := by
                  rw [← HRR.out]
                  refine ls_none hlt HG.out ?_
                  rw [HRG.out false (by simp [hF1])]
                  rfl
                have HN := Lib.hid hnone
                have HF1 := Lib.hid hF1
                clear hnone hF1
                go_wp2_with fail
                refine (figure_any ⟨lo.toArray⟩ _ slo).mono ?_
                rw [show figB (⟨lo.toArray⟩ : ByteArray).data.toList = false from HF1.out]
                rintro e w2 ⟨rfl, hd2⟩
                have hb2 : Below W.heap.size W w2 := by obtain ⟨n, rfl⟩ := hd2; exact below_drewN (Below.refl _ _) n
                have c2 := (hb2.cell (World.block_lt_of_cell? _ _ H2)).trans H2
                clear hd2
                go_wp2_with fail
                refine (figure_any ⟨hi.toArray⟩ _ shi).mono ?_
                generalize figB (⟨hi.toArray⟩ : ByteArray).data.toList = fh
                rintro e w3 ⟨rfl, hd3⟩
                have hb3 : Below w2.heap.size w2 w3 := by obtain ⟨n, rfl⟩ := hd3; exact below_drewN (Below.refl _ _) n
                have hbz := hbb2.trans ((hb2.trans (hb3.mono hb2.size)).mono hbb2.size)
                clear hd3 c2
                go_wp2
                go_ret2
                exact ⟨by rw [HN.out]; rfl, hbz⟩
              cases hF2 : figB hi
              · have hnone : R = none := by
                  rw [← HRR.out]
                  refine ls_none hlt HG.out ?_
                  rw [HRG.out false (by simp [hF2])]
                  rfl
                have HN := Lib.hid hnone
                have HF1 := Lib.hid hF1
                have HF2 := Lib.hid hF2
                clear hnone hF1 hF2
                go_wp2_with fail
                refine (figure_any ⟨lo.toArray⟩ _ slo).mono ?_
                rw [show figB (⟨lo.toArray⟩ : ByteArray).data.toList = true from HF1.out]
                rintro e w2 ⟨rfl, hd2⟩
                have hb2 : Below W.heap.size W w2 := by obtain ⟨n, rfl⟩ := hd2; exact below_drewN (Below.refl _ _) n
                have c2 := (hb2.cell (World.block_lt_of_cell? _ _ H2)).trans H2
                clear hd2
                go_wp2_with fail
                refine (figure_any ⟨hi.toArray⟩ _ shi).mono ?_
                rw [show figB (⟨hi.toArray⟩ : ByteArray).data.toList = false from HF2.out]
                rintro e w3 ⟨rfl, hd3⟩
                have hb3 : Below w2.heap.size w2 w3 := by obtain ⟨n, rfl⟩ := hd3; exact below_drewN (Below.refl _ _) n
                have hbz := hbb2.trans ((hb2.trans (hb3.mono hb2.size)).mono hbb2.size)
                clear hd3 c2
                go_wp2
                go_ret2
                exact ⟨by rw [HN.out]; rfl, hbz⟩
              have HF1 := Lib.hid hF1
              have HF2 := Lib.hid hF2
              obtain ⟨L0, hL0⟩ : ∃ L0, cmpL lo hi = L0 := ⟨_, rfl⟩
              have HL0 := Lib.hid hL0
              by_cases hp0 : 0 < L0
              · have hnone : R = none := by
                  rw [← HRR.out]
                  refine ls_none hlt HG.out ?_
                  rw [HRG.out false (by simp [hL0, hp0])]
                  rfl
                have HN := Lib.hid hnone
                have hp0' : decide (0 < L0) = true := by simpa using hp0
                clear hnone hF1 hF2 hL0
                go_wp2_with fail
                refine (figure_any ⟨lo.toArray⟩ _ slo).mono ?_
                rw [show figB (⟨lo.toArray⟩ : ByteArray).data.toList = true from HF1.out]
                rintro e w2 ⟨rfl, hd2⟩
                have hb2 : Below W.heap.size W w2 := by obtain ⟨n, rfl⟩ := hd2; exact below_drewN (Below.refl _ _) n
                have c2 := (hb2.cell (World.block_lt_of_cell? _ _ H2)).trans H2
                clear hd2
                go_wp2_with fail
                refine (figure_any ⟨hi.toArray⟩ _ shi).mono ?_
                rw [show figB (⟨hi.toArray⟩ : ByteArray).data.toList = true from HF2.out]
                rintro e w3 ⟨rfl, hd3⟩
                have hb3 : Below w2.heap.size w2 w3 := by obtain ⟨n, rfl⟩ := hd3; exact below_drewN (Below.refl _ _) n
                have hbz := hbb2.trans ((hb2.trans (hb3.mono hb2.size)).mono hbb2.size)
                clear hd3 c2
                go_wp2_with fail
                refine (compared_any ⟨lo.toArray⟩ ⟨hi.toArray⟩ _ slo shi).mono ?_
                rw [show cmpL (⟨lo.toArray⟩ : ByteArray).data.toList (⟨hi.toArray⟩ : ByteArray).data.toList = L0 from HL0.out]
                rintro e w4 ⟨rfl, rfl⟩
                go_wp2
                go_ret2
                exact ⟨by rw [HN.out]; rfl, hbz⟩
              obtain ⟨L1, hL1⟩ : ∃ L1, cmpL a.data.toList lo = L1 := ⟨_, rfl⟩
              obtain ⟨L2, hL2⟩ : ∃ L2, cmpL a.data.toList hi = L2 := ⟨_, rfl⟩
              have hsome : listedGo wi a.data.toList true ps false = listedGo wi a.data.toList true (ps.drop (k + 1)) (b || inB wi a.data.toList true lo hi) := by
                refine ls_some hlt HG.out ?_
                rw [HRG.out true (by simp [hF1, hF2, hL0, hp0])]
                rfl
              unfold inB at hsome
              rw [hL1, hL2] at hsome
              have HL1 := Lib.hid hL1
              have HL2 := Lib.hid hL2
              have HS := Lib.hid hsome
              have hp0' : decide (0 < L0) = false := by simpa using hp0
              clear hF1 hF2 hL0 hL1 hL2 hsome
              go_wp2_with fail
              refine (figure_any ⟨lo.toArray⟩ _ slo).mono ?_
              rw [show figB (⟨lo.toArray⟩ : ByteArray).data.toList = true from HF1.out]
              rintro e w2 ⟨rfl, hd2⟩
              have hb2 : Below W.heap.size W w2 := by obtain ⟨n, rfl⟩ := hd2; exact below_drewN (Below.refl _ _) n
              have c2 := (hb2.cell (World.block_lt_of_cell? _ _ H2)).trans H2
              clear hd2
              go_wp2_with fail
              refine (figure_any ⟨hi.toArray⟩ _ shi).mono ?_
              rw [show figB (⟨hi.toArray⟩ : ByteArray).data.toList = true from HF2.out]
              rintro e w3 ⟨rfl, hd3⟩
              have hb3 : Below w2.heap.size w2 w3 := by obtain ⟨n, rfl⟩ := hd3; exact below_drewN (Below.refl _ _) n
              have hbz := hbW1.trans ((hb2.trans (hb3.mono hb2.size)).mono hbW1.size)
              clear hd3 c2
              go_wp2_with fail
              refine (compared_any ⟨lo.toArray⟩ ⟨hi.toArray⟩ _ slo shi).mono ?_
              rw [show cmpL (⟨lo.toArray⟩ : ByteArray).data.toList (⟨hi.toArray⟩ : ByteArray).data.toList = L0 from HL0.out]
              rintro e w4 ⟨rfl, rfl⟩
              go_wp2_with fail
              refine (compared_any a ⟨lo.toArray⟩ _ ha slo).mono ?_
              rw [show cmpL a.data.toList (⟨lo.toArray⟩ : ByteArray).data.toList = L1 from HL1.out]
              rintro e w4 ⟨rfl, rfl⟩
              go_wp2_with fail
              refine (compared_any a ⟨hi.toArray⟩ _ ha shi).mono ?_
              rw [show cmpL a.data.toList (⟨hi.toArray⟩ : ByteArray).data.toList = L2 from HL2.out]
              rintro e w4 ⟨rfl, rfl⟩
              by_cases q1 : 0 ≤ L1
              · have q1' : decide (0 ≤ L1) = true := by simpa using q1
                rcases Int.lt_trichotomy L2 0 with q2 | q2 | q2
                · have q2' : decide (L2 < 0) = true := by simpa using q2
                  have HV := Lib.hid (show (b || (decide (0 ≤ L1) && ((decide (L2 < 0) || (decide (L2 = 0) && !true)) && (wi || !true)))) = (b || (wi || !true)) by rw [q1', q2']; simp)
                  cases wi <;>
                  · go_wp2
                    go_roundw
                    case rel => exact ⟨k + 1, _, by omega, by go_num, rfl, HS.out.trans (by rw [HV.out]; try (cases b <;> rfl)), hbz⟩
                    case measure => simp [intOf]; omega
                · subst q2
                  have HV := Lib.hid (show (b || (decide (0 ≤ L1) && ((decide ((0 : Int) < 0) || (decide ((0 : Int) = 0) && !true)) && (wi || !true)))) = (b || !true) by rw [q1']; cases wi <;> simp)
                  cases wi <;>
                  · go_wp2
                    go_roundw
                    case rel => exact ⟨k + 1, _, by omega, by go_num, rfl, HS.out.trans (by rw [HV.out]; try (cases b <;> rfl)), hbz⟩
                    case measure => simp [intOf]; omega
                · have q2' : decide (L2 < 0) = false := by simp; omega
                  have q2'' : (L2 == 0) = false := by simp; omega
                  have q3 : ¬ L2 < 0 := by omega
                  have q4 : ¬ L2 = 0 := by omega
                  have HV := Lib.hid (show (b || (decide (0 ≤ L1) && ((decide (L2 < 0) || (decide (L2 = 0) && !true)) && (wi || !true)))) = b by rw [q1', q2']; simp [q4])
                  go_wp2
                  go_roundw
                  case rel => exact ⟨k + 1, _, by omega, by go_num, rfl, HS.out.trans (by rw [HV.out]), hbz⟩
                  case measure => simp [intOf]; omega
              · have q1' : decide (0 ≤ L1) = false := by simpa using q1
                have HV := Lib.hid (show (b || (decide (0 ≤ L1) && ((decide (L2 < 0) || (decide (L2 = 0) && !true)) && (wi || !true)))) = b by rw [q1']; simp)
                go_wp2
                go_roundw
                case rel => exact ⟨k + 1, _, by omega, by go_num, rfl, HS.out.trans (by rw [HV.out]), hbz⟩
                case measure => simp [intOf]; omega
            · have hnone : R = none := by
                rw [← HRR.out]
                refine ls_none hlt HG.out ?_
                rw [hp]
                simp [oneRange, hd]
              have HN := Lib.hid hnone
              have hd2 : (d == [46, 46]) = false := by simpa using hd
              clear hp hnone hd
              go_wp2
              go_ret2
              exact ⟨by rw [HN.out]; rfl, hB.trans (hb.mono hB.size)⟩
          · have hnone : R = none := by
              rw [← HRR.out]
              refine ls_none hlt HG.out ?_
              rw [hp]
              exact hn1 l1 l3
            have HN := Lib.hid hnone
            have hq1 : ((p.length : Int) == 1) = false := by simp; omega
            have hq3 : ((p.length : Int) == 3) = false := by simp; omega
            clear hp hnone hn1 hc hsz hu h0
            generalize p.length = pl at *
            go_wp2
            go_ret2
            exact ⟨by rw [HN.out]; rfl, hB.trans (hb.mono hB.size)⟩
      · obtain rfl : k = ps.length := by omega
        have hgo := HG.out
        rw [List.drop_length, listedGo, HRR.out] at hgo
        have HF := Lib.hid hgo
        clear hgo
        go_wp2
        go_ret2
        exact ⟨by rw [HF.out]; rfl, hB.trans (hb.mono hB.size)⟩

set_option maxHeartbeats 8000000 in
theorem listed_one (v : Value) (ws : List Wd) (a f : ByteArray) (wi : Bool) (w : World) (h : StrsAt w v ws) (hw : ws.length ≤ 1000000) (hx : ∀ x ∈ ws, x.length ≤ 1000000) (ha : a.size ≤ 1000000) (hf : f.size ≤ 1000000)
    (hone : (partsL [44] ws).length = 1 ∧ ((partsL [44] ws).headD []).length = 1) :
    Calls Tryz.prog 52 #[v, .string a, .string f, .bool wi, .bool true] w fun e w' =>
      e = .returned (.tuple #[.bool ((listedGo wi a.data.toList (brk f.data.toList) (partsL [44] ws) false).getD false), .bool (listedGo wi a.data.toList (brk f.data.toList) (partsL [44] ws) false).isSome]) ∧ Below w.heap.size w w' := by
  have hsub : ∀ p ∈ partsL [44] ws, (∀ x ∈ p, x.length ≤ 1000000) ∧ p.length ≤ 1000000 := fun p hp => ⟨fun x hx' => by
    rcases partsGo_sub _ _ _ hp hx' with q | q
    · cases q
    · exact hx x q, by have := partsGo_small _ _ _ hp; simp at this; omega⟩
  have hcnt : (partsL [44] ws).length ≤ 1000001 := by have := partsGo_count [44] ws []; unfold partsL; omega
  have hpne : partsL [44] ws ≠ [] := partsGo_ne _ _ _
  have HPA := Lib.hid (parts_any ⟨#[44]⟩ v ws w h hw)
  generalize hps : partsL [44] ws = ps at *
  have hpseq : partsL (⟨#[44]⟩ : ByteArray).data.toList ws = ps := hps
  clear hps hx
  obtain ⟨br, hbr⟩ : ∃ br, brk f.data.toList = br := ⟨_, rfl⟩
  obtain ⟨R, hR⟩ : ∃ R, listedGo wi a.data.toList br ps false = R := ⟨_, rfl⟩
  rw [hbr, hR]
  have HBR := Lib.hid hbr
  have HRR := Lib.hid hR
  have HPS := Lib.hid hpseq
  have HSUB := Lib.hid hsub
  clear hR hbr hpseq hsub
  go_enter Tryz.func52, Tryz.ntmps52
  go_wp2_with fail
  refine HPA.out.mono ?_
  rintro e W1 ⟨⟨av, rfl, hpa⟩, hB⟩
  try rw [HPS.out] at hpa
  obtain ⟨g, cap, rfl, hcl, hcm, hg, hrow⟩ := hpa.rows hpne
  have HROW := Lib.hid hrow
  clear hpa hrow
  have hone2 : ps.length = 1 ∧ (ps.headD []).length = 1 := hone
  obtain ⟨u0, hu0, hst0⟩ := HROW.out 0 (by omega)
  have hp0 : (ps[0]'(by omega)).length = 1 := by
    rw [← head_at ps (by omega)]
    exact hone2.2
  obtain ⟨ad0, cp0, rfl, -, -, -, -⟩ := hst0
  rw [hp0] at hu0
  have hps1 : ps.length = 1 := hone2.1
  have HONE := Lib.hid hone
  clear hone hone2 hp0
  have hq1 : ((ps.length : Int) == 1) = true := by simp; omega
  have hq2 : ((ps.length : Int) != 1) = false := by simp; omega
  have hN0 : 0 < ps.length := by omega
  have HPS1 := Lib.hid hps1
  clear hps1
  go_wp2_with fail
  refine (nought_any f _ (by omega)).mono ?_
  rw [show f.data.toList.all (· == 48) = !br from by rw [← HBR.out, brk_not, Bool.not_not]]
  rintro e w1 ⟨rfl, rfl⟩
  cases br
  · simp only [Bool.not_true, Bool.not_false]
    go_wp2
    go_loopw [13, 15] (fun v i wr => LsRel wi a.data.toList false ps W1 v i wr) (fun _ i _ => ps.length - (intOf i).toNat)
    case atStart => exact ⟨0, false, Nat.zero_le _, rfl, by simp, rfl, Below.refl _ _⟩
    case round =>
      obtain ⟨k, b, hk, rfl, rfl, hgo, hb⟩ := hrel
      have HG := Lib.hid hgo
      clear hgo
      by_cases hlt : k < ps.length
      · obtain ⟨u, hu, hst⟩ := HROW.out k hlt
        have hu2 : wr.cell? ⟨g, k, none⟩ = some u := (hb.cell (World.block_lt_of_cell? _ _ hu)).trans hu
        obtain ⟨hsz, hln⟩ := HSUB.out _ (List.getElem_mem hlt)
        obtain ⟨p, hp⟩ : ∃ p, ps[k] = p := ⟨_, rfl⟩
        rw [hp] at hst hsz hln
        have hwW : w.heap.size ≤ wr.heap.size := Nat.le_trans hB.size hb.size
        obtain ⟨ad, cp, rfl, hl, hm, h0, hc⟩ := hst
        have hn1 := fun (q : ¬ p.length = 1) (q3 : ¬ p.length = 3) => (show oneRange p = none by
          match p, q, q3 with
          | [], _, _ => rfl
          | [_], q, _ => exact absurd rfl q
          | [_, _], _, _ => rfl
          | [_, _, _], _, q3 => exact absurd rfl q3
          | _ :: _ :: _ :: _ :: _, _, _ => rfl)
        by_cases l1 : p.length = 1
        · obtain ⟨lo, rfl⟩ : ∃ lo, p = [lo] := List.length_eq_one_iff.1 l1
          obtain ⟨y, rfl, hcy⟩ := hc 0 (by simp)
          have hcy0 : w.cell? y = some (strv lo) := by simpa [Addr.add] using hcy
          have hcy1 : wr.cell? y = some (strv lo) := ((hB.trans (hb.mono hB.size)).cell (World.block_lt_of_cell? _ _ hcy0)).trans hcy0
          have slo : (⟨lo.toArray⟩ : ByteArray).size ≤ 1000000 := hsz lo (by simp)
          obtain ⟨hi, hhi⟩ : ∃ hi, lo = hi := ⟨_, rfl⟩
          have shi : (⟨hi.toArray⟩ : ByteArray).size ≤ 1000000 := hhi ▸ slo
          have HP := Lib.hid (show (ps[k] = [lo, [46, 46], hi]) ∨ (ps[k] = [lo] ∧ lo = hi) from .inr ⟨hp, hhi⟩)
          have HHI := Lib.hid hhi
          clear hc hcy hcy0 hsz hp hn1 hu hhi l1 hln h0
          go_wp2_with fail
          go_still_tail 6, (by kernel_rfl)
          refine list_gen ?_
          intro W0 hW0
          have hbW0 : Below wr.heap.size wr W0 := by rw [hW0]; exact ⟨rfl, rfl, rfl, Nat.le_refl _, fun _ _ => rfl⟩
          clear hW0
          go_wp2_with fail
          refine calls_gen ?_
          intro W hW
          have hbW : Below wr.heap.size wr W := by rw [hW]; exact hbW0.alloc hbW0.size _
          have H0 : W.cell? ⟨W0.heap.size, 0, none⟩ = some (strv lo) := by rw [hW]; exact cell_made _ _ _ _ _
          have H1 : W.cell? ⟨W0.heap.size, 1, none⟩ = some (strv [46, 46]) := by rw [hW]; exact cell_made _ _ _ _ _
          have H2 : W.cell? ⟨W0.heap.size, 2, none⟩ = some (strv hi) := by rw [hW, ← HHI.out]; exact cell_made _ _ _ _ _
          clear hW
          have hbb2 := hB.trans ((hb.trans (hbW.mono hb.size)).mono hB.size)
          have hbW1 : Below W1.heap.size W1 W := hb.trans (hbW.mono hb.size)
          have HRG := Lib.hid (fun q h => range_three (lo := lo) (hi := hi) q h HP.out)
          cases hF1 : figB lo
          · have hnone : R = none := by
              rw [← HRR.out]
              refine ls_none hlt HG.out ?_
              rw [HRG.out false (by simp [hF1])]
              rfl
            have HN := Lib.hid hnone
            have HF1 := Lib.hid hF1
            clear hnone hF1
            refine (figure_any ⟨lo.toArray⟩ _ slo).mono ?_
            rw [show figB (⟨lo.toArray⟩ : ByteArray).data.toList = false from HF1.out]
            rintro e w2 ⟨rfl, hd2⟩
            have hb2 : Below W.heap.size W w2 := by obtain ⟨n, rfl⟩ := hd2; exact below_drewN (Below.refl _ _) n
            have c2 := (hb2.cell (World.block_lt_of_cell? _ _ H2)).trans H2
            clear hd2
            go_wp2_with fail
            refine (figure_any ⟨hi.toArray⟩ _ shi).mono ?_
            generalize figB (⟨hi.toArray⟩ : ByteArray).data.toList = fh
            rintro e w3 ⟨rfl, hd3⟩
            have hb3 : Below w2.heap.size w2 w3 := by obtain ⟨n, rfl⟩ := hd3; exact below_drewN (Below.refl _ _) n
            have hbz := hbb2.trans ((hb2.trans (hb3.mono hb2.size)).mono hbb2.size)
            clear hd3 c2
            go_wp2
            go_ret2
            exact ⟨by rw [HN.out]; rfl, hbz⟩
          cases hF2 : figB hi
          · have hnone : R = none := by
              rw [← HRR.out]
              refine ls_none hlt HG.out ?_
              rw [HRG.out false (by simp [hF2])]
              rfl
            have HN := Lib.hid hnone
            have HF1 := Lib.hid hF1
            have HF2 := Lib.hid hF2
            clear hnone hF1 hF2
            refine (figure_any ⟨lo.toArray⟩ _ slo).mono ?_
            rw [show figB (⟨lo.toArray⟩ : ByteArray).data.toList = true from HF1.out]
            rintro e w2 ⟨rfl, hd2⟩
            have hb2 : Below W.heap.size W w2 := by obtain ⟨n, rfl⟩ := hd2; exact below_drewN (Below.refl _ _) n
            have c2 := (hb2.cell (World.block_lt_of_cell? _ _ H2)).trans H2
            clear hd2
            go_wp2_with fail
            refine (figure_any ⟨hi.toArray⟩ _ shi).mono ?_
            rw [show figB (⟨hi.toArray⟩ : ByteArray).data.toList = false from HF2.out]
            rintro e w3 ⟨rfl, hd3⟩
            have hb3 : Below w2.heap.size w2 w3 := by obtain ⟨n, rfl⟩ := hd3; exact below_drewN (Below.refl _ _) n
            have hbz := hbb2.trans ((hb2.trans (hb3.mono hb2.size)).mono hbb2.size)
            clear hd3 c2
            go_wp2
            go_ret2
            exact ⟨by rw [HN.out]; rfl, hbz⟩
          have HF1 := Lib.hid hF1
          have HF2 := Lib.hid hF2
          obtain ⟨L0, hL0⟩ : ∃ L0, cmpL lo hi = L0 := ⟨_, rfl⟩
          have HL0 := Lib.hid hL0
          by_cases hp0 : 0 < L0
          · have hnone : R = none := by
              rw [← HRR.out]
              refine ls_none hlt HG.out ?_
              rw [HRG.out false (by simp [hL0, hp0])]
              rfl
            have HN := Lib.hid hnone
            have hp0' : decide (0 < L0) = true := by simpa using hp0
            clear hnone hF1 hF2 hL0
            refine (figure_any ⟨lo.toArray⟩ _ slo).mono ?_
            rw [show figB (⟨lo.toArray⟩ : ByteArray).data.toList = true from HF1.out]
            rintro e w2 ⟨rfl, hd2⟩
            have hb2 : Below W.heap.size W w2 := by obtain ⟨n, rfl⟩ := hd2; exact below_drewN (Below.refl _ _) n
            have c2 := (hb2.cell (World.block_lt_of_cell? _ _ H2)).trans H2
            clear hd2
            go_wp2_with fail
            refine (figure_any ⟨hi.toArray⟩ _ shi).mono ?_
            rw [show figB (⟨hi.toArray⟩ : ByteArray).data.toList = true from HF2.out]
            rintro e w3 ⟨rfl, hd3⟩
            have hb3 : Below w2.heap.size w2 w3 := by obtain ⟨n, rfl⟩ := hd3; exact below_drewN (Below.refl _ _) n
            have hbz := hbb2.trans ((hb2.trans (hb3.mono hb2.size)).mono hbb2.size)
            clear hd3 c2
            go_wp2_with fail
            refine (compared_any ⟨lo.toArray⟩ ⟨hi.toArray⟩ _ slo shi).mono ?_
            rw [show cmpL (⟨lo.toArray⟩ : ByteArray).data.toList (⟨hi.toArray⟩ : ByteArray).data.toList = L0 from HL0.out]
            rintro e w4 ⟨rfl, rfl⟩
            go_wp2
            go_ret2
            exact ⟨by rw [HN.out]; rfl, hbz⟩
          obtain ⟨L1, hL1⟩ : ∃ L1, cmpL a.data.toList lo = L1 := ⟨_, rfl⟩
          obtain ⟨L2, hL2⟩ : ∃ L2, cmpL a.data.toList hi = L2 := ⟨_, rfl⟩
          have hsome : listedGo wi a.data.toList false ps false = listedGo wi a.data.toList false (ps.drop (k + 1)) (b || inB wi a.data.toList false lo hi) := by
            refine ls_some hlt HG.out ?_
            rw [HRG.out true (by simp [hF1, hF2, hL0, hp0])]
            rfl
          unfold inB at hsome
          rw [hL1, hL2] at hsome
          have HL1 := Lib.hid hL1
          have HL2 := Lib.hid hL2
          have HS := Lib.hid hsome
          have hp0' : decide (0 < L0) = false := by simpa using hp0
          clear hF1 hF2 hL0 hL1 hL2 hsome
          refine (figure_any ⟨lo.toArray⟩ _ slo).mono ?_
          rw [show figB (⟨lo.toArray⟩ : ByteArray).data.toList = true from HF1.out]
          rintro e w2 ⟨rfl, hd2⟩
          have hb2 : Below W.heap.size W w2 := by obtain ⟨n, rfl⟩ := hd2; exact below_drewN (Below.refl _ _) n
          have c2 := (hb2.cell (World.block_lt_of_cell? _ _ H2)).trans H2
          clear hd2
          go_wp2_with fail
          refine (figure_any ⟨hi.toArray⟩ _ shi).mono ?_
          rw [show figB (⟨hi.toArray⟩ : ByteArray).data.toList = true from HF2.out]
          rintro e w3 ⟨rfl, hd3⟩
          have hb3 : Below w2.heap.size w2 w3 := by obtain ⟨n, rfl⟩ := hd3; exact below_drewN (Below.refl _ _) n
          have hbz := hbW1.trans ((hb2.trans (hb3.mono hb2.size)).mono hbW1.size)
          clear hd3 c2
          go_wp2_with fail
          refine (compared_any ⟨lo.toArray⟩ ⟨hi.toArray⟩ _ slo shi).mono ?_
          rw [show cmpL (⟨lo.toArray⟩ : ByteArray).data.toList (⟨hi.toArray⟩ : ByteArray).data.toList = L0 from HL0.out]
          rintro e w4 ⟨rfl, rfl⟩
          go_wp2_with fail
          refine (compared_any a ⟨lo.toArray⟩ _ ha slo).mono ?_
          rw [show cmpL a.data.toList (⟨lo.toArray⟩ : ByteArray).data.toList = L1 from HL1.out]
          rintro e w4 ⟨rfl, rfl⟩
          go_wp2_with fail
          refine (compared_any a ⟨hi.toArray⟩ _ ha shi).mono ?_
          rw [show cmpL a.data.toList (⟨hi.toArray⟩ : ByteArray).data.toList = L2 from HL2.out]
          rintro e w4 ⟨rfl, rfl⟩
          by_cases q1 : 0 ≤ L1
          · have q1' : decide (0 ≤ L1) = true := by simpa using q1
            rcases Int.lt_trichotomy L2 0 with q2 | q2 | q2
            · have q2' : decide (L2 < 0) = true := by simpa using q2
              have HV := Lib.hid (show (b || (decide (0 ≤ L1) && ((decide (L2 < 0) || (decide (L2 = 0) && !false)) && (wi || !false)))) = (b || (wi || !false)) by rw [q1', q2']; simp)
              cases wi <;>
              · go_wp2
                go_roundw
                case rel => exact ⟨k + 1, _, by omega, by go_num, rfl, HS.out.trans (by rw [HV.out]; try (cases b <;> rfl)), hbz⟩
                case measure => simp [intOf]; omega
            · subst q2
              have HV := Lib.hid (show (b || (decide (0 ≤ L1) && ((decide ((0 : Int) < 0) || (decide ((0 : Int) = 0) && !false)) && (wi || !false)))) = (b || !false) by rw [q1']; cases wi <;> simp)
              cases wi <;>
              · go_wp2
                go_roundw
                case rel => exact ⟨k + 1, _, by omega, by go_num, rfl, HS.out.trans (by rw [HV.out]; try (cases b <;> rfl)), hbz⟩
                case measure => simp [intOf]; omega
            · have q2' : decide (L2 < 0) = false := by simp; omega
              have q2'' : (L2 == 0) = false := by simp; omega
              have q3 : ¬ L2 < 0 := by omega
              have q4 : ¬ L2 = 0 := by omega
              have HV := Lib.hid (show (b || (decide (0 ≤ L1) && ((decide (L2 < 0) || (decide (L2 = 0) && !false)) && (wi || !false)))) = b by rw [q1', q2']; simp [q4])
              go_wp2
              go_roundw
              case rel => exact ⟨k + 1, _, by omega, by go_num, rfl, HS.out.trans (by rw [HV.out]), hbz⟩
              case measure => simp [intOf]; omega
          · have q1' : decide (0 ≤ L1) = false := by simpa using q1
            have HV := Lib.hid (show (b || (decide (0 ≤ L1) && ((decide (L2 < 0) || (decide (L2 = 0) && !false)) && (wi || !false)))) = b by rw [q1']; simp)
            go_wp2
            go_roundw
            case rel => exact ⟨k + 1, _, by omega, by go_num, rfl, HS.out.trans (by rw [HV.out]), hbz⟩
            case measure => simp [intOf]; omega
        · by_cases l3 : p.length = 3
          · obtain ⟨lo, d, hi, rfl⟩ : ∃ lo d hi, p = [lo, d, hi] := (by match p, l3 with | [lo, d, hi], _ => exact ⟨lo, d, hi, rfl⟩)
            obtain ⟨y, rfl, hcy⟩ := hc 0 (by simp)
            obtain ⟨y2, hy2, hcz⟩ := hc 1 (by simp)
            obtain ⟨y3, hy3, hcx⟩ := hc 2 (by simp)
            obtain rfl := Option.some.inj hy2
            obtain rfl := Option.some.inj hy3
            have hbb := hB.trans (hb.mono hB.size)
            have H0 : wr.cell? y = some (strv lo) := (hbb.cell (World.block_lt_of_cell? _ _ (by simpa [Addr.add] using hcy))).trans (by simpa [Addr.add] using hcy)
            have H1 : wr.cell? ⟨y.block, y.off + 1, none⟩ = some (strv d) := (hbb.cell (World.block_lt_of_cell? _ _ (by simpa [Addr.add] using hcz))).trans (by simpa [Addr.add] using hcz)
            have H2 : wr.cell? ⟨y.block, y.off + 2, none⟩ = some (strv hi) := (hbb.cell (World.block_lt_of_cell? _ _ (by simpa [Addr.add] using hcx))).trans (by simpa [Addr.add] using hcx)
            have slo : (⟨lo.toArray⟩ : ByteArray).size ≤ 1000000 := hsz lo (by simp)
            have shi : (⟨hi.toArray⟩ : ByteArray).size ≤ 1000000 := hsz hi (by simp)
            clear hc hcy hcz hcx hsz hn1 hu l1 l3 hln h0
            by_cases hd : d = [46, 46]
            · subst hd
              have HP := Lib.hid (show (ps[k] = [lo, [46, 46], hi]) ∨ (ps[k] = [lo] ∧ lo = hi) from .inl hp)
              clear hp
              refine wp_gen ?_
              intro W hW
              have hbW : Below wr.heap.size wr W := by rw [hW]; exact Below.refl _ _
              subst hW
              have hbb2 := hB.trans ((hb.trans (hbW.mono hb.size)).mono hB.size)
              have hbW1 : Below W1.heap.size W1 W := hb.trans (hbW.mono hb.size)
              have HRG := Lib.hid (fun q h => range_three (lo := lo) (hi := hi) q h HP.out)
              cases hF1 : figB lo
              · have hnone : R = none := by
                  rw [← HRR.out]
                  refine ls_none hlt HG.out ?_
                  rw [HRG.out false (by simp [hF1])]
                  rfl
                have HN := Lib.hid hnone
                have HF1 := Lib.hid hF1
                clear hnone hF1
                go_wp2_with fail
                refine (figure_any ⟨lo.toArray⟩ _ slo).mono ?_
                rw [show figB (⟨lo.toArray⟩ : ByteArray).data.toList = false from HF1.out]
                rintro e w2 ⟨rfl, hd2⟩
                have hb2 : Below W.heap.size W w2 := by obtain ⟨n, rfl⟩ := hd2; exact below_drewN (Below.refl _ _) n
                have c2 := (hb2.cell (World.block_lt_of_cell? _ _ H2)).trans H2
                clear hd2
                go_wp2_with fail
                refine (figure_any ⟨hi.toArray⟩ _ shi).mono ?_
                generalize figB (⟨hi.toArray⟩ : ByteArray).data.toList = fh
                rintro e w3 ⟨rfl, hd3⟩
                have hb3 : Below w2.heap.size w2 w3 := by obtain ⟨n, rfl⟩ := hd3; exact below_drewN (Below.refl _ _) n
                have hbz := hbb2.trans ((hb2.trans (hb3.mono hb2.size)).mono hbb2.size)
                clear hd3 c2
                go_wp2
                go_ret2
                exact ⟨by rw [HN.out]; rfl, hbz⟩
              cases hF2 : figB hi
              · have hnone : R = none := by
                  rw [← HRR.out]
                  refine ls_none hlt HG.out ?_
                  rw [HRG.out false (by simp [hF2])]
                  rfl
                have HN := Lib.hid hnone
                have HF1 := Lib.hid hF1
                have HF2 := Lib.hid hF2
                clear hnone hF1 hF2
                go_wp2_with fail
                refine (figure_any ⟨lo.toArray⟩ _ slo).mono ?_
                rw [show figB (⟨lo.toArray⟩ : ByteArray).data.toList = true from HF1.out]
                rintro e w2 ⟨rfl, hd2⟩
                have hb2 : Below W.heap.size W w2 := by obtain ⟨n, rfl⟩ := hd2; exact below_drewN (Below.refl _ _) n
                have c2 := (hb2.cell (World.block_lt_of_cell? _ _ H2)).trans H2
                clear hd2
                go_wp2_with fail
                refine (figure_any ⟨hi.toArray⟩ _ shi).mono ?_
                rw [show figB (⟨hi.toArray⟩ : ByteArray).data.toList = false from HF2.out]
                rintro e w3 ⟨rfl, hd3⟩
                have hb3 : Below w2.heap.size w2 w3 := by obtain ⟨n, rfl⟩ := hd3; exact below_drewN (Below.refl _ _) n
                have hbz := hbb2.trans ((hb2.trans (hb3.mono hb2.size)).mono hbb2.size)
                clear hd3 c2
                go_wp2
                go_ret2
                exact ⟨by rw [HN.out]; rfl, hbz⟩
              have HF1 := Lib.hid hF1
              have HF2 := Lib.hid hF2
              obtain ⟨L0, hL0⟩ : ∃ L0, cmpL lo hi = L0 := ⟨_, rfl⟩
              have HL0 := Lib.hid hL0
              by_cases hp0 : 0 < L0
              · have hnone : R = none := by
                  rw [← HRR.out]
                  refine ls_none hlt HG.out ?_
                  rw [HRG.out false (by simp [hL0, hp0])]
                  rfl
                have HN := Lib.hid hnone
                have hp0' : decide (0 < L0) = true := by simpa using hp0
                clear hnone hF1 hF2 hL0
                go_wp2_with fail
                refine (figure_any ⟨lo.toArray⟩ _ slo).mono ?_
                rw [show figB (⟨lo.toArray⟩ : ByteArray).data.toList = true from HF1.out]
                rintro e w2 ⟨rfl, hd2⟩
                have hb2 : Below W.heap.size W w2 := by obtain ⟨n, rfl⟩ := hd2; exact below_drewN (Below.refl _ _) n
                have c2 := (hb2.cell (World.block_lt_of_cell? _ _ H2)).trans H2
                clear hd2
                go_wp2_with fail
                refine (figure_any ⟨hi.toArray⟩ _ shi).mono ?_
                rw [show figB (⟨hi.toArray⟩ : ByteArray).data.toList = true from HF2.out]
                rintro e w3 ⟨rfl, hd3⟩
                have hb3 : Below w2.heap.size w2 w3 := by obtain ⟨n, rfl⟩ := hd3; exact below_drewN (Below.refl _ _) n
                have hbz := hbb2.trans ((hb2.trans (hb3.mono hb2.size)).mono hbb2.size)
                clear hd3 c2
                go_wp2_with fail
                refine (compared_any ⟨lo.toArray⟩ ⟨hi.toArray⟩ _ slo shi).mono ?_
                rw [show cmpL (⟨lo.toArray⟩ : ByteArray).data.toList (⟨hi.toArray⟩ : ByteArray).data.toList = L0 from HL0.out]
                rintro e w4 ⟨rfl, rfl⟩
                go_wp2
                go_ret2
                exact ⟨by rw [HN.out]; rfl, hbz⟩
              obtain ⟨L1, hL1⟩ : ∃ L1, cmpL a.data.toList lo = L1 := ⟨_, rfl⟩
              obtain ⟨L2, hL2⟩ : ∃ L2, cmpL a.data.toList hi = L2 := ⟨_, rfl⟩
              have hsome : listedGo wi a.data.toList false ps false = listedGo wi a.data.toList false (ps.drop (k + 1)) (b || inB wi a.data.toList false lo hi) := by
                refine ls_some hlt HG.out ?_
                rw [HRG.out true (by simp [hF1, hF2, hL0, hp0])]
                rfl
              unfold inB at hsome
              rw [hL1, hL2] at hsome
              have HL1 := Lib.hid hL1
              have HL2 := Lib.hid hL2
              have HS := Lib.hid hsome
              have hp0' : decide (0 < L0) = false := by simpa using hp0
              clear hF1 hF2 hL0 hL1 hL2 hsome
              go_wp2_with fail
              refine (figure_any ⟨lo.toArray⟩ _ slo).mono ?_
              rw [show figB (⟨lo.toArray⟩ : ByteArray).data.toList = true from HF1.out]
              rintro e w2 ⟨rfl, hd2⟩
              have hb2 : Below W.heap.size W w2 := by obtain ⟨n, rfl⟩ := hd2; exact below_drewN (Below.refl _ _) n
              have c2 := (hb2.cell (World.block_lt_of_cell? _ _ H2)).trans H2
              clear hd2
              go_wp2_with fail
              refine (figure_any ⟨hi.toArray⟩ _ shi).mono ?_
              rw [show figB (⟨hi.toArray⟩ : ByteArray).data.toList = true from HF2.out]
              rintro e w3 ⟨rfl, hd3⟩
              have hb3 : Below w2.heap.size w2 w3 := by obtain ⟨n, rfl⟩ := hd3; exact below_drewN (Below.refl _ _) n
              have hbz := hbW1.trans ((hb2.trans (hb3.mono hb2.size)).mono hbW1.size)
              clear hd3 c2
              go_wp2_with fail
              refine (compared_any ⟨lo.toArray⟩ ⟨hi.toArray⟩ _ slo shi).mono ?_
              rw [show cmpL (⟨lo.toArray⟩ : ByteArray).data.toList (⟨hi.toArray⟩ : ByteArray).data.toList = L0 from HL0.out]
              rintro e w4 ⟨rfl, rfl⟩
              go_wp2_with fail
              refine (compared_any a ⟨lo.toArray⟩ _ ha slo).mono ?_
              rw [show cmpL a.data.toList (⟨lo.toArray⟩ : ByteArray).data.toList = L1 from HL1.out]
              rintro e w4 ⟨rfl, rfl⟩
              go_wp2_with fail
              refine (compared_any a ⟨hi.toArray⟩ _ ha shi).mono ?_
              rw [show cmpL a.data.toList (⟨hi.toArray⟩ : ByteArray).data.toList = L2 from HL2.out]
              rintro e w4 ⟨rfl, rfl⟩
              by_cases q1 : 0 ≤ L1
              · have q1' : decide (0 ≤ L1) = true := by simpa using q1
                rcases Int.lt_trichotomy L2 0 with q2 | q2 | q2
                · have q2' : decide (L2 < 0) = true := by simpa using q2
                  have HV := Lib.hid (show (b || (decide (0 ≤ L1) && ((decide (L2 < 0) || (decide (L2 = 0) && !false)) && (wi || !false)))) = (b || (wi || !false)) by rw [q1', q2']; simp)
                  cases wi <;>
                  · go_wp2
                    go_roundw
                    case rel => exact ⟨k + 1, _, by omega, by go_num, rfl, HS.out.trans (by rw [HV.out]; try (cases b <;> rfl)), hbz⟩
                    case measure => simp [intOf]; omega
                · subst q2
                  have HV := Lib.hid (show (b || (decide (0 ≤ L1) && ((decide ((0 : Int) < 0) || (decide ((0 : Int) = 0) && !false)) && (wi || !false)))) = (b || !false) by rw [q1']; cases wi <;> simp)
                  cases wi <;>
                  · go_wp2
                    go_roundw
                    case rel => exact ⟨k + 1, _, by omega, by go_num, rfl, HS.out.trans (by rw [HV.out]; try (cases b <;> rfl)), hbz⟩
                    case measure => simp [intOf]; omega
                · have q2' : decide (L2 < 0) = false := by simp; omega
                  have q2'' : (L2 == 0) = false := by simp; omega
                  have q3 : ¬ L2 < 0 := by omega
                  have q4 : ¬ L2 = 0 := by omega
                  have HV := Lib.hid (show (b || (decide (0 ≤ L1) && ((decide (L2 < 0) || (decide (L2 = 0) && !false)) && (wi || !false)))) = b by rw [q1', q2']; simp [q4])
                  go_wp2
                  go_roundw
                  case rel => exact ⟨k + 1, _, by omega, by go_num, rfl, HS.out.trans (by rw [HV.out]), hbz⟩
                  case measure => simp [intOf]; omega
              · have q1' : decide (0 ≤ L1) = false := by simpa using q1
                have HV := Lib.hid (show (b || (decide (0 ≤ L1) && ((decide (L2 < 0) || (decide (L2 = 0) && !false)) && (wi || !false)))) = b by rw [q1']; simp)
                go_wp2
                go_roundw
                case rel => exact ⟨k + 1, _, by omega, by go_num, rfl, HS.out.trans (by rw [HV.out]), hbz⟩
                case measure => simp [intOf]; omega
            · have hnone : R = none := by
                rw [← HRR.out]
                refine ls_none hlt HG.out ?_
                rw [hp]
                simp [oneRange, hd]
              have HN := Lib.hid hnone
              have hd2 : (d == [46, 46]) = false := by simpa using hd
              clear hp hnone hd
              go_wp2
              go_ret2
              exact ⟨by rw [HN.out]; rfl, hB.trans (hb.mono hB.size)⟩
          · have hnone : R = none := by
              rw [← HRR.out]
              refine ls_none hlt HG.out ?_
              rw [hp]
              exact hn1 l1 l3
            have HN := Lib.hid hnone
            have hq1 : ((p.length : Int) == 1) = false := by simp; omega
            have hq3 : ((p.length : Int) == 3) = false := by simp; omega
            clear hp hnone hn1 hc hsz hu h0
            generalize p.length = pl at *
            go_wp2
            go_ret2
            exact ⟨by rw [HN.out]; rfl, hB.trans (hb.mono hB.size)⟩
      · obtain rfl : k = ps.length := by omega
        have hgo := HG.out
        rw [List.drop_length, listedGo, HRR.out] at hgo
        have HF := Lib.hid hgo
        clear hgo
        go_wp2
        go_ret2
        exact ⟨by rw [HF.out]; rfl, hB.trans (hb.mono hB.size)⟩
  · simp only [Bool.not_true, Bool.not_false]
    go_wp2
    go_loopw [13, 15] (fun v i wr => LsRel wi a.data.toList true ps W1 v i wr) (fun _ i _ => ps.length - (intOf i).toNat)
    case atStart => exact ⟨0, false, Nat.zero_le _, rfl, by simp, rfl, Below.refl _ _⟩
    case round =>
      obtain ⟨k, b, hk, rfl, rfl, hgo, hb⟩ := hrel
      have HG := Lib.hid hgo
      clear hgo
      by_cases hlt : k < ps.length
      · obtain ⟨u, hu, hst⟩ := HROW.out k hlt
        have hu2 : wr.cell? ⟨g, k, none⟩ = some u := (hb.cell (World.block_lt_of_cell? _ _ hu)).trans hu
        obtain ⟨hsz, hln⟩ := HSUB.out _ (List.getElem_mem hlt)
        obtain ⟨p, hp⟩ : ∃ p, ps[k] = p := ⟨_, rfl⟩
        rw [hp] at hst hsz hln
        have hwW : w.heap.size ≤ wr.heap.size := Nat.le_trans hB.size hb.size
        obtain ⟨ad, cp, rfl, hl, hm, h0, hc⟩ := hst
        have hn1 := fun (q : ¬ p.length = 1) (q3 : ¬ p.length = 3) => (show oneRange p = none by
          match p, q, q3 with
          | [], _, _ => rfl
          | [_], q, _ => exact absurd rfl q
          | [_, _], _, _ => rfl
          | [_, _, _], _, q3 => exact absurd rfl q3
          | _ :: _ :: _ :: _ :: _, _, _ => rfl)
        by_cases l1 : p.length = 1
        · obtain ⟨lo, rfl⟩ : ∃ lo, p = [lo] := List.length_eq_one_iff.1 l1
          obtain ⟨y, rfl, hcy⟩ := hc 0 (by simp)
          have hcy0 : w.cell? y = some (strv lo) := by simpa [Addr.add] using hcy
          have hcy1 : wr.cell? y = some (strv lo) := ((hB.trans (hb.mono hB.size)).cell (World.block_lt_of_cell? _ _ hcy0)).trans hcy0
          have slo : (⟨lo.toArray⟩ : ByteArray).size ≤ 1000000 := hsz lo (by simp)
          obtain ⟨hi, hhi⟩ : ∃ hi, lo = hi := ⟨_, rfl⟩
          have shi : (⟨hi.toArray⟩ : ByteArray).size ≤ 1000000 := hhi ▸ slo
          have HP := Lib.hid (show (ps[k] = [lo, [46, 46], hi]) ∨ (ps[k] = [lo] ∧ lo = hi) from .inr ⟨hp, hhi⟩)
          have HHI := Lib.hid hhi
          clear hc hcy hcy0 hsz hp hn1 hu hhi l1 hln h0
          go_wp2_with fail
          go_still_tail 6, (by kernel_rfl)
          refine list_gen ?_
          intro W0 hW0
          have hbW0 : Below wr.heap.size wr W0 := by rw [hW0]; exact ⟨rfl, rfl, rfl, Nat.le_refl _, fun _ _ => rfl⟩
          clear hW0
          go_wp2_with fail
          refine calls_gen ?_
          intro W hW
          have hbW : Below wr.heap.size wr W := by rw [hW]; exact hbW0.alloc hbW0.size _
          have H0 : W.cell? ⟨W0.heap.size, 0, none⟩ = some (strv lo) := by rw [hW]; exact cell_made _ _ _ _ _
          have H1 : W.cell? ⟨W0.heap.size, 1, none⟩ = some (strv [46, 46]) := by rw [hW]; exact cell_made _ _ _ _ _
          have H2 : W.cell? ⟨W0.heap.size, 2, none⟩ = some (strv hi) := by rw [hW, ← HHI.out]; exact cell_made _ _ _ _ _
          clear hW
          have hbb2 := hB.trans ((hb.trans (hbW.mono hb.size)).mono hB.size)
          have hbW1 : Below W1.heap.size W1 W := hb.trans (hbW.mono hb.size)
          have HRG := Lib.hid (fun q h => range_three (lo := lo) (hi := hi) q h HP.out)
          cases hF1 : figB lo
          · have hnone : R = none := by
              rw [← HRR.out]
              refine ls_none hlt HG.out ?_
              rw [HRG.out false (by simp [hF1])]
              rfl
            have HN := Lib.hid hnone
            have HF1 := Lib.hid hF1
            clear hnone hF1
            refine (figure_any ⟨lo.toArray⟩ _ slo).mono ?_
            rw [show figB (⟨lo.toArray⟩ : ByteArray).data.toList = false from HF1.out]
            rintro e w2 ⟨rfl, hd2⟩
            have hb2 : Below W.heap.size W w2 := by obtain ⟨n, rfl⟩ := hd2; exact below_drewN (Below.refl _ _) n
            have c2 := (hb2.cell (World.block_lt_of_cell? _ _ H2)).trans H2
            clear hd2
            go_wp2_with fail
            refine (figure_any ⟨hi.toArray⟩ _ shi).mono ?_
            generalize figB (⟨hi.toArray⟩ : ByteArray).data.toList = fh
            rintro e w3 ⟨rfl, hd3⟩
            have hb3 : Below w2.heap.size w2 w3 := by obtain ⟨n, rfl⟩ := hd3; exact below_drewN (Below.refl _ _) n
            have hbz := hbb2.trans ((hb2.trans (hb3.mono hb2.size)).mono hbb2.size)
            clear hd3 c2
            go_wp2
            go_ret2
            exact ⟨by rw [HN.out]; rfl, hbz⟩
          cases hF2 : figB hi
          · have hnone : R = none := by
              rw [← HRR.out]
              refine ls_none hlt HG.out ?_
              rw [HRG.out false (by simp [hF2])]
              rfl
            have HN := Lib.hid hnone
            have HF1 := Lib.hid hF1
            have HF2 := Lib.hid hF2
            clear hnone hF1 hF2
            refine (figure_any ⟨lo.toArray⟩ _ slo).mono ?_
            rw [show figB (⟨lo.toArray⟩ : ByteArray).data.toList = true from HF1.out]
            rintro e w2 ⟨rfl, hd2⟩
            have hb2 : Below W.heap.size W w2 := by obtain ⟨n, rfl⟩ := hd2; exact below_drewN (Below.refl _ _) n
            have c2 := (hb2.cell (World.block_lt_of_cell? _ _ H2)).trans H2
            clear hd2
            go_wp2_with fail
            refine (figure_any ⟨hi.toArray⟩ _ shi).mono ?_
            rw [show figB (⟨hi.toArray⟩ : ByteArray).data.toList = false from HF2.out]
            rintro e w3 ⟨rfl, hd3⟩
            have hb3 : Below w2.heap.size w2 w3 := by obtain ⟨n, rfl⟩ := hd3; exact below_drewN (Below.refl _ _) n
            have hbz := hbb2.trans ((hb2.trans (hb3.mono hb2.size)).mono hbb2.size)
            clear hd3 c2
            go_wp2
            go_ret2
            exact ⟨by rw [HN.out]; rfl, hbz⟩
          have HF1 := Lib.hid hF1
          have HF2 := Lib.hid hF2
          obtain ⟨L0, hL0⟩ : ∃ L0, cmpL lo hi = L0 := ⟨_, rfl⟩
          have HL0 := Lib.hid hL0
          by_cases hp0 : 0 < L0
          · have hnone : R = none := by
              rw [← HRR.out]
              refine ls_none hlt HG.out ?_
              rw [HRG.out false (by simp [hL0, hp0])]
              rfl
            have HN := Lib.hid hnone
            have hp0' : decide (0 < L0) = true := by simpa using hp0
            clear hnone hF1 hF2 hL0
            refine (figure_any ⟨lo.toArray⟩ _ slo).mono ?_
            rw [show figB (⟨lo.toArray⟩ : ByteArray).data.toList = true from HF1.out]
            rintro e w2 ⟨rfl, hd2⟩
            have hb2 : Below W.heap.size W w2 := by obtain ⟨n, rfl⟩ := hd2; exact below_drewN (Below.refl _ _) n
            have c2 := (hb2.cell (World.block_lt_of_cell? _ _ H2)).trans H2
            clear hd2
            go_wp2_with fail
            refine (figure_any ⟨hi.toArray⟩ _ shi).mono ?_
            rw [show figB (⟨hi.toArray⟩ : ByteArray).data.toList = true from HF2.out]
            rintro e w3 ⟨rfl, hd3⟩
            have hb3 : Below w2.heap.size w2 w3 := by obtain ⟨n, rfl⟩ := hd3; exact below_drewN (Below.refl _ _) n
            have hbz := hbb2.trans ((hb2.trans (hb3.mono hb2.size)).mono hbb2.size)
            clear hd3 c2
            go_wp2_with fail
            refine (compared_any ⟨lo.toArray⟩ ⟨hi.toArray⟩ _ slo shi).mono ?_
            rw [show cmpL (⟨lo.toArray⟩ : ByteArray).data.toList (⟨hi.toArray⟩ : ByteArray).data.toList = L0 from HL0.out]
            rintro e w4 ⟨rfl, rfl⟩
            go_wp2
            go_ret2
            exact ⟨by rw [HN.out]; rfl, hbz⟩
          obtain ⟨L1, hL1⟩ : ∃ L1, cmpL a.data.toList lo = L1 := ⟨_, rfl⟩
          obtain ⟨L2, hL2⟩ : ∃ L2, cmpL a.data.toList hi = L2 := ⟨_, rfl⟩
          have hsome : listedGo wi a.data.toList true ps false = listedGo wi a.data.toList true (ps.drop (k + 1)) (b || inB wi a.data.toList true lo hi) := by
            refine ls_some hlt HG.out ?_
            rw [HRG.out true (by simp [hF1, hF2, hL0, hp0])]
            rfl
          unfold inB at hsome
          rw [hL1, hL2] at hsome
          have HL1 := Lib.hid hL1
          have HL2 := Lib.hid hL2
          have HS := Lib.hid hsome
          have hp0' : decide (0 < L0) = false := by simpa using hp0
          clear hF1 hF2 hL0 hL1 hL2 hsome
          refine (figure_any ⟨lo.toArray⟩ _ slo).mono ?_
          rw [show figB (⟨lo.toArray⟩ : ByteArray).data.toList = true from HF1.out]
          rintro e w2 ⟨rfl, hd2⟩
          have hb2 : Below W.heap.size W w2 := by obtain ⟨n, rfl⟩ := hd2; exact below_drewN (Below.refl _ _) n
          have c2 := (hb2.cell (World.block_lt_of_cell? _ _ H2)).trans H2
          clear hd2
          go_wp2_with fail
          refine (figure_any ⟨hi.toArray⟩ _ shi).mono ?_
          rw [show figB (⟨hi.toArray⟩ : ByteArray).data.toList = true from HF2.out]
          rintro e w3 ⟨rfl, hd3⟩
          have hb3 : Below w2.heap.size w2 w3 := by obtain ⟨n, rfl⟩ := hd3; exact below_drewN (Below.refl _ _) n
          have hbz := hbW1.trans ((hb2.trans (hb3.mono hb2.size)).mono hbW1.size)
          clear hd3 c2
          go_wp2_with fail
          refine (compared_any ⟨lo.toArray⟩ ⟨hi.toArray⟩ _ slo shi).mono ?_
          rw [show cmpL (⟨lo.toArray⟩ : ByteArray).data.toList (⟨hi.toArray⟩ : ByteArray).data.toList = L0 from HL0.out]
          rintro e w4 ⟨rfl, rfl⟩
          go_wp2_with fail
          refine (compared_any a ⟨lo.toArray⟩ _ ha slo).mono ?_
          rw [show cmpL a.data.toList (⟨lo.toArray⟩ : ByteArray).data.toList = L1 from HL1.out]
          rintro e w4 ⟨rfl, rfl⟩
          go_wp2_with fail
          refine (compared_any a ⟨hi.toArray⟩ _ ha shi).mono ?_
          rw [show cmpL a.data.toList (⟨hi.toArray⟩ : ByteArray).data.toList = L2 from HL2.out]
          rintro e w4 ⟨rfl, rfl⟩
          by_cases q1 : 0 ≤ L1
          · have q1' : decide (0 ≤ L1) = true := by simpa using q1
            rcases Int.lt_trichotomy L2 0 with q2 | q2 | q2
            · have q2' : decide (L2 < 0) = true := by simpa using q2
              have HV := Lib.hid (show (b || (decide (0 ≤ L1) && ((decide (L2 < 0) || (decide (L2 = 0) && !true)) && (wi || !true)))) = (b || (wi || !true)) by rw [q1', q2']; simp)
              cases wi <;>
              · go_wp2
                go_roundw
                case rel => exact ⟨k + 1, _, by omega, by go_num, rfl, HS.out.trans (by rw [HV.out]; try (cases b <;> rfl)), hbz⟩
                case measure => simp [intOf]; omega
            · subst q2
              have HV := Lib.hid (show (b || (decide (0 ≤ L1) && ((decide ((0 : Int) < 0) || (decide ((0 : Int) = 0) && !true)) && (wi || !true)))) = (b || !true) by rw [q1']; cases wi <;> simp)
              cases wi <;>
              · go_wp2
                go_roundw
                case rel => exact ⟨k + 1, _, by omega, by go_num, rfl, HS.out.trans (by rw [HV.out]; try (cases b <;> rfl)), hbz⟩
                case measure => simp [intOf]; omega
            · have q2' : decide (L2 < 0) = false := by simp; omega
              have q2'' : (L2 == 0) = false := by simp; omega
              have q3 : ¬ L2 < 0 := by omega
              have q4 : ¬ L2 = 0 := by omega
              have HV := Lib.hid (show (b || (decide (0 ≤ L1) && ((decide (L2 < 0) || (decide (L2 = 0) && !true)) && (wi || !true)))) = b by rw [q1', q2']; simp [q4])
              go_wp2
              go_roundw
              case rel => exact ⟨k + 1, _, by omega, by go_num, rfl, HS.out.trans (by rw [HV.out]), hbz⟩
              case measure => simp [intOf]; omega
          · have q1' : decide (0 ≤ L1) = false := by simpa using q1
            have HV := Lib.hid (show (b || (decide (0 ≤ L1) && ((decide (L2 < 0) || (decide (L2 = 0) && !true)) && (wi || !true)))) = b by rw [q1']; simp)
            go_wp2
            go_roundw
            case rel => exact ⟨k + 1, _, by omega, by go_num, rfl, HS.out.trans (by rw [HV.out]), hbz⟩
            case measure => simp [intOf]; omega
        · by_cases l3 : p.length = 3
          · obtain ⟨lo, d, hi, rfl⟩ : ∃ lo d hi, p = [lo, d, hi] := (by match p, l3 with | [lo, d, hi], _ => exact ⟨lo, d, hi, rfl⟩)
            obtain ⟨y, rfl, hcy⟩ := hc 0 (by simp)
            obtain ⟨y2, hy2, hcz⟩ := hc 1 (by simp)
            obtain ⟨y3, hy3, hcx⟩ := hc 2 (by simp)
            obtain rfl := Option.some.inj hy2
            obtain rfl := Option.some.inj hy3
            have hbb := hB.trans (hb.mono hB.size)
            have H0 : wr.cell? y = some (strv lo) := (hbb.cell (World.block_lt_of_cell? _ _ (by simpa [Addr.add] using hcy))).trans (by simpa [Addr.add] using hcy)
            have H1 : wr.cell? ⟨y.block, y.off + 1, none⟩ = some (strv d) := (hbb.cell (World.block_lt_of_cell? _ _ (by simpa [Addr.add] using hcz))).trans (by simpa [Addr.add] using hcz)
            have H2 : wr.cell? ⟨y.block, y.off + 2, none⟩ = some (strv hi) := (hbb.cell (World.block_lt_of_cell? _ _ (by simpa [Addr.add] using hcx))).trans (by simpa [Addr.add] using hcx)
            have slo : (⟨lo.toArray⟩ : ByteArray).size ≤ 1000000 := hsz lo (by simp)
            have shi : (⟨hi.toArray⟩ : ByteArray).size ≤ 1000000 := hsz hi (by simp)
            clear hc hcy hcz hcx hsz hn1 hu l1 l3 hln h0
            by_cases hd : d = [46, 46]
            · subst hd
              have HP := Lib.hid (show (ps[k] = [lo, [46, 46], hi]) ∨ (ps[k] = [lo] ∧ lo = hi) from .inl hp)
              clear hp
              refine wp_gen ?_
              intro W hW
              have hbW : Below wr.heap.size wr W := by rw [hW]; exact Below.refl _ _
              subst hW
              have hbb2 := hB.trans ((hb.trans (hbW.mono hb.size)).mono hB.size)
              have hbW1 : Below W1.heap.size W1 W := hb.trans (hbW.mono hb.size)
              have HRG := Lib.hid (fun q h => range_three (lo := lo) (hi := hi) q h HP.out)
              cases hF1 : figB lo
              · have hnone : R = none := by
                  rw [← HRR.out]
                  refine ls_none hlt HG.out ?_
                  rw [HRG.out false (by simp [hF1])]
                  rfl
                have HN := Lib.hid hnone
                have HF1 := Lib.hid hF1
                clear hnone hF1
                go_wp2_with fail
                refine (figure_any ⟨lo.toArray⟩ _ slo).mono ?_
                rw [show figB (⟨lo.toArray⟩ : ByteArray).data.toList = false from HF1.out]
                rintro e w2 ⟨rfl, hd2⟩
                have hb2 : Below W.heap.size W w2 := by obtain ⟨n, rfl⟩ := hd2; exact below_drewN (Below.refl _ _) n
                have c2 := (hb2.cell (World.block_lt_of_cell? _ _ H2)).trans H2
                clear hd2
                go_wp2_with fail
                refine (figure_any ⟨hi.toArray⟩ _ shi).mono ?_
                generalize figB (⟨hi.toArray⟩ : ByteArray).data.toList = fh
                rintro e w3 ⟨rfl, hd3⟩
                have hb3 : Below w2.heap.size w2 w3 := by obtain ⟨n, rfl⟩ := hd3; exact below_drewN (Below.refl _ _) n
                have hbz := hbb2.trans ((hb2.trans (hb3.mono hb2.size)).mono hbb2.size)
                clear hd3 c2
                go_wp2
                go_ret2
                exact ⟨by rw [HN.out]; rfl, hbz⟩
              cases hF2 : figB hi
              · have hnone : R = none := by
                  rw [← HRR.out]
                  refine ls_none hlt HG.out ?_
                  rw [HRG.out false (by simp [hF2])]
                  rfl
                have HN := Lib.hid hnone
                have HF1 := Lib.hid hF1
                have HF2 := Lib.hid hF2
                clear hnone hF1 hF2
                go_wp2_with fail
                refine (figure_any ⟨lo.toArray⟩ _ slo).mono ?_
                rw [show figB (⟨lo.toArray⟩ : ByteArray).data.toList = true from HF1.out]
                rintro e w2 ⟨rfl, hd2⟩
                have hb2 : Below W.heap.size W w2 := by obtain ⟨n, rfl⟩ := hd2; exact below_drewN (Below.refl _ _) n
                have c2 := (hb2.cell (World.block_lt_of_cell? _ _ H2)).trans H2
                clear hd2
                go_wp2_with fail
                refine (figure_any ⟨hi.toArray⟩ _ shi).mono ?_
                rw [show figB (⟨hi.toArray⟩ : ByteArray).data.toList = false from HF2.out]
                rintro e w3 ⟨rfl, hd3⟩
                have hb3 : Below w2.heap.size w2 w3 := by obtain ⟨n, rfl⟩ := hd3; exact below_drewN (Below.refl _ _) n
                have hbz := hbb2.trans ((hb2.trans (hb3.mono hb2.size)).mono hbb2.size)
                clear hd3 c2
                go_wp2
                go_ret2
                exact ⟨by rw [HN.out]; rfl, hbz⟩
              have HF1 := Lib.hid hF1
              have HF2 := Lib.hid hF2
              obtain ⟨L0, hL0⟩ : ∃ L0, cmpL lo hi = L0 := ⟨_, rfl⟩
              have HL0 := Lib.hid hL0
              by_cases hp0 : 0 < L0
              · have hnone : R = none := by
                  rw [← HRR.out]
                  refine ls_none hlt HG.out ?_
                  rw [HRG.out false (by simp [hL0, hp0])]
                  rfl
                have HN := Lib.hid hnone
                have hp0' : decide (0 < L0) = true := by simpa using hp0
                clear hnone hF1 hF2 hL0
                go_wp2_with fail
                refine (figure_any ⟨lo.toArray⟩ _ slo).mono ?_
                rw [show figB (⟨lo.toArray⟩ : ByteArray).data.toList = true from HF1.out]
                rintro e w2 ⟨rfl, hd2⟩
                have hb2 : Below W.heap.size W w2 := by obtain ⟨n, rfl⟩ := hd2; exact below_drewN (Below.refl _ _) n
                have c2 := (hb2.cell (World.block_lt_of_cell? _ _ H2)).trans H2
                clear hd2
                go_wp2_with fail
                refine (figure_any ⟨hi.toArray⟩ _ shi).mono ?_
                rw [show figB (⟨hi.toArray⟩ : ByteArray).data.toList = true from HF2.out]
                rintro e w3 ⟨rfl, hd3⟩
                have hb3 : Below w2.heap.size w2 w3 := by obtain ⟨n, rfl⟩ := hd3; exact below_drewN (Below.refl _ _) n
                have hbz := hbb2.trans ((hb2.trans (hb3.mono hb2.size)).mono hbb2.size)
                clear hd3 c2
                go_wp2_with fail
                refine (compared_any ⟨lo.toArray⟩ ⟨hi.toArray⟩ _ slo shi).mono ?_
                rw [show cmpL (⟨lo.toArray⟩ : ByteArray).data.toList (⟨hi.toArray⟩ : ByteArray).data.toList = L0 from HL0.out]
                rintro e w4 ⟨rfl, rfl⟩
                go_wp2
                go_ret2
                exact ⟨by rw [HN.out]; rfl, hbz⟩
              obtain ⟨L1, hL1⟩ : ∃ L1, cmpL a.data.toList lo = L1 := ⟨_, rfl⟩
              obtain ⟨L2, hL2⟩ : ∃ L2, cmpL a.data.toList hi = L2 := ⟨_, rfl⟩
              have hsome : listedGo wi a.data.toList true ps false = listedGo wi a.data.toList true (ps.drop (k + 1)) (b || inB wi a.data.toList true lo hi) := by
                refine ls_some hlt HG.out ?_
                rw [HRG.out true (by simp [hF1, hF2, hL0, hp0])]
                rfl
              unfold inB at hsome
              rw [hL1, hL2] at hsome
              have HL1 := Lib.hid hL1
              have HL2 := Lib.hid hL2
              have HS := Lib.hid hsome
              have hp0' : decide (0 < L0) = false := by simpa using hp0
              clear hF1 hF2 hL0 hL1 hL2 hsome
              go_wp2_with fail
              refine (figure_any ⟨lo.toArray⟩ _ slo).mono ?_
              rw [show figB (⟨lo.toArray⟩ : ByteArray).data.toList = true from HF1.out]
              rintro e w2 ⟨rfl, hd2⟩
              have hb2 : Below W.heap.size W w2 := by obtain ⟨n, rfl⟩ := hd2; exact below_drewN (Below.refl _ _) n
              have c2 := (hb2.cell (World.block_lt_of_cell? _ _ H2)).trans H2
              clear hd2
              go_wp2_with fail
              refine (figure_any ⟨hi.toArray⟩ _ shi).mono ?_
              rw [show figB (⟨hi.toArray⟩ : ByteArray).data.toList = true from HF2.out]
              rintro e w3 ⟨rfl, hd3⟩
              have hb3 : Below w2.heap.size w2 w3 := by obtain ⟨n, rfl⟩ := hd3; exact below_drewN (Below.refl _ _) n
              have hbz := hbW1.trans ((hb2.trans (hb3.mono hb2.size)).mono hbW1.size)
              clear hd3 c2
              go_wp2_with fail
              refine (compared_any ⟨lo.toArray⟩ ⟨hi.toArray⟩ _ slo shi).mono ?_
              rw [show cmpL (⟨lo.toArray⟩ : ByteArray).data.toList (⟨hi.toArray⟩ : ByteArray).data.toList = L0 from HL0.out]
              rintro e w4 ⟨rfl, rfl⟩
              go_wp2_with fail
              refine (compared_any a ⟨lo.toArray⟩ _ ha slo).mono ?_
              rw [show cmpL a.data.toList (⟨lo.toArray⟩ : ByteArray).data.toList = L1 from HL1.out]
              rintro e w4 ⟨rfl, rfl⟩
              go_wp2_with fail
              refine (compared_any a ⟨hi.toArray⟩ _ ha shi).mono ?_
              rw [show cmpL a.data.toList (⟨hi.toArray⟩ : ByteArray).data.toList = L2 from HL2.out]
              rintro e w4 ⟨rfl, rfl⟩
              by_cases q1 : 0 ≤ L1
              · have q1' : decide (0 ≤ L1) = true := by simpa using q1
                rcases Int.lt_trichotomy L2 0 with q2 | q2 | q2
                · have q2' : decide (L2 < 0) = true := by simpa using q2
                  have HV := Lib.hid (show (b || (decide (0 ≤ L1) && ((decide (L2 < 0) || (decide (L2 = 0) && !true)) && (wi || !true)))) = (b || (wi || !true)) by rw [q1', q2']; simp)
                  cases wi <;>
                  · go_wp2
                    go_roundw
                    case rel => exact ⟨k + 1, _, by omega, by go_num, rfl, HS.out.trans (by rw [HV.out]; try (cases b <;> rfl)), hbz⟩
                    case measure => simp [intOf]; omega
                · subst q2
                  have HV := Lib.hid (show (b || (decide (0 ≤ L1) && ((decide ((0 : Int) < 0) || (decide ((0 : Int) = 0) && !true)) && (wi || !true)))) = (b || !true) by rw [q1']; cases wi <;> simp)
                  cases wi <;>
                  · go_wp2
                    go_roundw
                    case rel => exact ⟨k + 1, _, by omega, by go_num, rfl, HS.out.trans (by rw [HV.out]; try (cases b <;> rfl)), hbz⟩
                    case measure => simp [intOf]; omega
                · have q2' : decide (L2 < 0) = false := by simp; omega
                  have q2'' : (L2 == 0) = false := by simp; omega
                  have q3 : ¬ L2 < 0 := by omega
                  have q4 : ¬ L2 = 0 := by omega
                  have HV := Lib.hid (show (b || (decide (0 ≤ L1) && ((decide (L2 < 0) || (decide (L2 = 0) && !true)) && (wi || !true)))) = b by rw [q1', q2']; simp [q4])
                  go_wp2
                  go_roundw
                  case rel => exact ⟨k + 1, _, by omega, by go_num, rfl, HS.out.trans (by rw [HV.out]), hbz⟩
                  case measure => simp [intOf]; omega
              · have q1' : decide (0 ≤ L1) = false := by simpa using q1
                have HV := Lib.hid (show (b || (decide (0 ≤ L1) && ((decide (L2 < 0) || (decide (L2 = 0) && !true)) && (wi || !true)))) = b by rw [q1']; simp)
                go_wp2
                go_roundw
                case rel => exact ⟨k + 1, _, by omega, by go_num, rfl, HS.out.trans (by rw [HV.out]), hbz⟩
                case measure => simp [intOf]; omega
            · have hnone : R = none := by
                rw [← HRR.out]
                refine ls_none hlt HG.out ?_
                rw [hp]
                simp [oneRange, hd]
              have HN := Lib.hid hnone
              have hd2 : (d == [46, 46]) = false := by simpa using hd
              clear hp hnone hd
              go_wp2
              go_ret2
              exact ⟨by rw [HN.out]; rfl, hB.trans (hb.mono hB.size)⟩
          · have hnone : R = none := by
              rw [← HRR.out]
              refine ls_none hlt HG.out ?_
              rw [hp]
              exact hn1 l1 l3
            have HN := Lib.hid hnone
            have hq1 : ((p.length : Int) == 1) = false := by simp; omega
            have hq3 : ((p.length : Int) == 3) = false := by simp; omega
            clear hp hnone hn1 hc hsz hu h0
            generalize p.length = pl at *
            go_wp2
            go_ret2
            exact ⟨by rw [HN.out]; rfl, hB.trans (hb.mono hB.size)⟩
      · obtain rfl : k = ps.length := by omega
        have hgo := HG.out
        rw [List.drop_length, listedGo, HRR.out] at hgo
        have HF := Lib.hid hgo
        clear hgo
        go_wp2
        go_ret2
        exact ⟨by rw [HF.out]; rfl, hB.trans (hb.mono hB.size)⟩

set_option maxHeartbeats 2000000 in
theorem listed_bad (v : Value) (ws : List Wd) (a f : ByteArray) (wi : Bool) (w : World) (h : StrsAt w v ws) (hw : ws.length ≤ 1000000) (hone : ¬ ((partsL [44] ws).length = 1 ∧ ((partsL [44] ws).headD []).length = 1)) :
    Calls Tryz.prog 52 #[v, .string a, .string f, .bool wi, .bool true] w fun e w' => e = .returned (.tuple #[.bool false, .bool false]) ∧ Below w.heap.size w w' := by
  have hcnt : (partsL [44] ws).length ≤ 1000001 := by have := partsGo_count [44] ws []; unfold partsL; omega
  have hsub : ∀ p ∈ partsL [44] ws, p.length ≤ 1000000 := fun p hp => by have := partsGo_small _ _ _ hp; simp at this; omega
  have hpne : partsL [44] ws ≠ [] := partsGo_ne _ _ _
  have HPA := Lib.hid (parts_any ⟨#[44]⟩ v ws w h hw)
  generalize hps : partsL [44] ws = ps at *
  have HPS := Lib.hid (show partsL (⟨#[44]⟩ : ByteArray).data.toList ws = ps from hps)
  have HSUB := Lib.hid hsub
  have HONE := Lib.hid hone
  clear hps hsub hone
  go_enter Tryz.func52, Tryz.ntmps52
  go_wp2_with fail
  refine HPA.out.mono ?_
  rintro e W1 ⟨⟨av, rfl, hpa⟩, hB⟩
  try rw [HPS.out] at hpa
  obtain ⟨g, cap, rfl, hcl, hcm, hg, hrow⟩ := hpa.rows hpne
  have HROW := Lib.hid hrow
  clear hpa hrow
  by_cases h1 : ps.length = 1
  · obtain ⟨u0, hu0, hst0⟩ := HROW.out 0 (by omega)
    have hp0 : ¬ ps[0].length = 1 := by
      rw [← head_at ps (by omega)]
      exact fun q => HONE.out ⟨h1, q⟩
    have hpl := HSUB.out ps[0] (List.getElem_mem (by omega))
    generalize hP : ps[0] = P at *
    clear hP
    obtain ⟨ad0, cp0, rfl, -, -, -, -⟩ := hst0
    generalize P.length = M at *
    have hq1 : ((ps.length : Int) == 1) = true := by simp; omega
    have hq2 : ((M : Int) == 1) = false := by simp; omega
    have hq3 : ((ps.length : Int) != 1) = false := by simp; omega
    have hq4 : ((M : Int) != 1) = true := by simp; omega
    have hN0 : 0 < ps.length := by omega
    clear h1
    go_wp2
    go_ret2
    exact ⟨rfl, hB⟩
  · have hq1 : ((ps.length : Int) == 1) = false := by simp; omega
    have hq3 : ((ps.length : Int) != 1) = true := by simp; omega
    go_wp2
    go_ret2
    exact ⟨rfl, hB⟩

theorem listed_any (v : Value) (ws : List Wd) (a f : ByteArray) (wi one : Bool) (w : World) (h : StrsAt w v ws) (hw : ws.length ≤ 1000000) (hx : ∀ x ∈ ws, x.length ≤ 1000000) (ha : a.size ≤ 1000000) (hf : f.size ≤ 1000000) :
    Calls Tryz.prog 52 #[v, .string a, .string f, .bool wi, .bool one] w fun e w' =>
      e = .returned (.tuple #[.bool ((listedL ws a.data.toList f.data.toList wi one).getD false), .bool (listedL ws a.data.toList f.data.toList wi one).isSome]) ∧ Below w.heap.size w w' := by
  unfold listedL
  cases one
  · rw [if_neg (by simp)]
    exact listed_many v ws a f wi w h hw hx ha hf
  · by_cases hone : (partsL [44] ws).length = 1 ∧ ((partsL [44] ws).headD []).length = 1
    · rw [if_neg (fun q => q.2 hone)]
      exact listed_one v ws a f wi w h hw hx ha hf hone
    · rw [if_pos ⟨rfl, hone⟩]
      exact listed_bad v ws a f wi w h hw hone
end Go.Proofs.YtkhdbolnhcfgkaaGreatDoor
