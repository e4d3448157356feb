import Derived.Test.YtkhdbolnhcfgkaaGreatDoorJ13

/- The law Logic: it returns true. -/
namespace Go.Proofs.YtkhdbolnhcfgkaaGreatDoor
open Go Go.RowKit
set_option maxRecDepth 10000

def fewW : Wd := [102, 101, 119]
def zeroW : Wd := [122, 101, 114, 111]

/-- the fact that the law begins with -/
def factB : ByteArray := ⟨#[110, 32, 61, 32, 49, 32, 111, 114, 32, 110, 32, 119, 105, 116, 104, 105, 110, 32, 50, 46, 46, 51, 32, 97, 110, 100, 32, 118, 32, 61, 32, 49]⟩

theorem fact_holds : isK factB.data.toList [50, 46, 53] = true ∧ isX factB.data.toList [50, 46, 53] = true := by
  refine isK_of (by kernel_rfl) ?_
  kernel_rfl

theorem two_cat {a b s : List UInt8} (ha : isK a s = true) (hb : isK b s = true) :
    catC [(fewW, a), (zeroW, b)] s = 0 ∧ catT [(fewW, a), (zeroW, b)] s = if isX a s = true then fewW else if isX b s = true then zeroW else othW := by
  have hn := isK_num ha
  have h1 := isX_holds ha
  have h2 := isX_holds hb
  rw [isK_eq, Bool.and_eq_true] at ha hb
  have hr : ruledL [(fewW, a), (zeroW, b)] = true := by
    unfold ruledL ruledGo ruledGo ruledGo
    simp [show fewW ∈ cats5 by decide, show zeroW ∈ cats5 by decide, ha.1, hb.1, show ¬ zeroW = fewW by decide]
  refine ⟨by unfold catC; rw [hr, hn]; rfl, ?_⟩
  unfold catT
  rw [hr, hn]
  show sortL _ _ = _
  unfold sortL sortL sortL
  rw [h1, h2]
  simp only [Option.some.injEq]

theorem names2 : lastN [othW, fewW] fewW = 2 ∧ lastN [othW, fewW] zeroW = 0 ∧ lastN [othW, fewW] othW = 1 := by decide

theorem sizeLit (l : Wd) : (⟨l.toArray⟩ : ByteArray).size = l.length := size_mk l

set_option maxHeartbeats 16000000 in
theorem logic_law (a b s : ByteArray) (w : World) (ha : a.size ≤ 140737488355328) (hb : b.size ≤ 140737488355328) (hP : PlurW w) :
    Calls Tryz.prog 4 #[.string a, .string b, .string s] w fun e w' => e = .returned (.bool true) ∧ Below w.heap.size w w' := by
  have HP := Lib.hid hP
  clear hP
  have hwr : IntKind.i64.wrap ((a.size : Int) + (b.size : Int)) = (a.size : Int) + (b.size : Int) := by simp [IntKind.wrap, IntKind.signed, IntKind.bits]; omega
  by_cases h1 : 190 < a.size + b.size
  · have g1 : decide ((190 : Int) < (a.size : Int) + (b.size : Int)) = true := by simp; omega
    have g2 : decide (190 < a.size + b.size) = true := decide_eq_true h1
    go_enter Tryz.func4, Tryz.ntmps4
    go_wp2
    go_ret
    exact ⟨rfl, Below.refl _ _⟩
  · have g1 : decide ((190 : Int) < (a.size : Int) + (b.size : Int)) = false := by simp; omega
    have g2 : decide (190 < a.size + b.size) = false := decide_eq_false h1
    by_cases h2 : 60 < s.size
    · have g3 : decide (60 < s.size) = true := decide_eq_true h2
      go_enter Tryz.func4, Tryz.ntmps4
      go_wp2
      go_ret
      exact ⟨rfl, Below.refl _ _⟩
    · have g3 : decide (60 < s.size) = false := decide_eq_false h2
      have hfact := fun W (h : PlurW W) => kis_any factB ⟨#[50, 46, 53]⟩ W (by decide) (by decide) h
      rw [fact_holds.1, fact_holds.2, show factB = ⟨#[110, 32, 61, 32, 49, 32, 111, 114, 32, 110, 32, 119, 105, 116, 104, 105, 110, 32, 50, 46, 46, 51, 32, 97, 110, 100, 32, 118, 32, 61, 32, 49]⟩ from rfl] at hfact
      have HFACT := Lib.hid hfact
      have HISA := Lib.hid (fun W (h : PlurW W) => kis_any a s W (by omega) (by omega) h)
      have HISB := Lib.hid (fun W (h : PlurW W) => kis_any b s W (by omega) (by omega) h)
      have HAT := Lib.hid (fun W => keep_holds a ⟨#[64]⟩ W (by omega) (by decide) (by decide))
      have HOR1 := Lib.hid (fun W => keep_holds a ⟨#[111, 114]⟩ W (by omega) (by decide) (by decide))
      have HOR2 := Lib.hid (fun W => keep_holds b ⟨#[111, 114]⟩ W (by omega) (by decide) (by decide))
      have HLZ := Lib.hid (show ∀ q ∈ [(fewW, a.data.toList), (zeroW, b.data.toList)], q.1.length ≤ 1000000 ∧ q.2.length ≤ 1000000 from fun q hq => by
        rcases List.mem_cons.1 hq with rfl | hq
        · exact ⟨by show fewW.length ≤ 1000000; decide, by rw [size_toList]; omega⟩
        · rw [List.mem_singleton.1 hq]
          exact ⟨by show zeroW.length ≤ 1000000; decide, by rw [size_toList]; omega⟩)
      obtain ⟨xa, hxa⟩ : ∃ q, isX a.data.toList s.data.toList = q := ⟨_, rfl⟩
      obtain ⟨xb, hxb⟩ : ∃ q, isX b.data.toList s.data.toList = q := ⟨_, rfl⟩
      obtain ⟨ka, hka⟩ : ∃ q, isK a.data.toList s.data.toList = q := ⟨_, rfl⟩
      obtain ⟨kb, hkb⟩ : ∃ q, isK b.data.toList s.data.toList = q := ⟨_, rfl⟩
      rw [hxa, hka] at HISA
      rw [hxb, hkb] at HISB
      have HXA := Lib.hid hxa
      have HYB := Lib.hid hxb
      have HKA := Lib.hid hka
      have HKB := Lib.hid hkb
      clear hfact hxa hxb hka hkb
      go_enter Tryz.func4, Tryz.ntmps4
      go_wp2_with fail
      refine (HFACT.out _ HP.out).mono ?_
      rintro e w1 ⟨rfl, hb1⟩
      go_wp2_with fail
      refine (HISA.out _ (HP.out.below hb1)).mono ?_
      rintro e w2 ⟨rfl, hb2⟩
      have hb02 := hb1.trans (hb2.mono hb1.size)
      go_wp2_with fail
      refine (HISB.out _ (HP.out.below hb02)).mono ?_
      rintro e w3 ⟨rfl, hb3⟩
      have hb03 := hb02.trans (hb3.mono hb02.size)
      clear hb1 hb2 hb3 hb02 HFACT HISA HISB
      go_wp2_with fail
      refine (HAT.out w3).mono ?_
      rintro e w' ⟨rfl, sm, rfl, hsm⟩
      have HSM := Lib.hid hsm
      clear hsm HAT
      cases ka
      · go_wp2
        go_ret
        exact ⟨rfl, hb03⟩
      · cases kb
        · go_wp2
          go_ret
          exact ⟨rfl, hb03⟩
        · cases sm
          · have hat : (64 : UInt8) ∉ a.data.toList := fun h => HSM.out rfl (by
              obtain ⟨p, q, e⟩ := List.append_of_mem h
              exact ⟨p, q, by rw [e]; simp⟩)
            have hn := isK_num HKA.out
            have hA := isX_holds HKA.out
            have hB := isX_holds HKB.out
            have hle : a.data.toList.length + b.data.toList.length ≤ 190 := by rw [size_toList, size_toList]; omega
            have hor := isK_of hn (or_law2 hle hat hA hB)
            have hand1 := and_some hle hat hA hB
            have HAND2 := Lib.hid (fun n1 n2 => isK_of hn (and_law2 hle hat n1 n2 hA hB))
            have HTWO := Lib.hid (two_cat HKA.out HKB.out)
            have hand : isK (a.data.toList ++ (32 :: wAndL ++ 32 :: b.data.toList)) s.data.toList = true := by
              obtain ⟨q, hq⟩ := Option.isSome_iff_exists.1 hand1
              exact (isK_of hn hq).1
            have hco : a ++ ⟨#[32, 111, 114, 32]⟩ ++ b = ⟨(a.data.toList ++ (32 :: wOrL ++ 32 :: b.data.toList)).toArray⟩ := by
              rw [append_eq (a ++ _), append_eq a, toList_mk]
              simp [wOrL]
            have hca : a ++ ⟨#[32, 97, 110, 100, 32]⟩ ++ b = ⟨(a.data.toList ++ (32 :: wAndL ++ 32 :: b.data.toList)).toArray⟩ := by
              rw [append_eq (a ++ _), append_eq a, toList_mk]
              simp [wAndL]
            have hio := fun W (h : PlurW W) => kis_any (a ++ ⟨#[32, 111, 114, 32]⟩ ++ b) s W (by rw [hco, size_mk]; simp [wOrL]; omega) (by omega) h
            have hia := fun W (h : PlurW W) => kis_any (a ++ ⟨#[32, 97, 110, 100, 32]⟩ ++ b) s W (by rw [hca, size_mk]; simp [wAndL]; omega) (by omega) h
            obtain ⟨xab, hxab⟩ : ∃ q, isX (a.data.toList ++ (32 :: wAndL ++ 32 :: b.data.toList)) s.data.toList = q := ⟨_, rfl⟩
            rw [show (a ++ ⟨#[32, 111, 114, 32]⟩ ++ b).data.toList = a.data.toList ++ (32 :: wOrL ++ 32 :: b.data.toList) by rw [hco, toList_mk], hor.1, hor.2, HXA.out, HYB.out] at hio
            rw [show (a ++ ⟨#[32, 97, 110, 100, 32]⟩ ++ b).data.toList = a.data.toList ++ (32 :: wAndL ++ 32 :: b.data.toList) by rw [hca, toList_mk], hand, hxab] at hia
            have HIO := Lib.hid hio
            have HIA := Lib.hid hia
            have HXAB := Lib.hid hxab
            clear hio hia hxab hco hca hand hand1 hor hn hA hB hat HSM
            go_wp2_with fail
            refine (HIO.out _ (HP.out.below hb03)).mono ?_
            rintro e w4 ⟨rfl, hb4⟩
            have hb04 := hb03.trans (hb4.mono hb03.size)
            clear hb4 hb03 HIO
            have horx : ((xa || xb) != (xa || xb)) = false := by simp
            cases xa <;> cases xb
            · go_wp2_with fail
              refine (HOR1.out w4).mono ?_
              rintro e w' ⟨rfl, o1, rfl, ho1⟩
              have HO1 := Lib.hid ho1
              clear ho1
              go_wp2_with fail
              refine (HOR2.out w4).mono ?_
              rintro e w' ⟨rfl, o2, rfl, ho2⟩
              have HO2 := Lib.hid ho2
              clear ho2
              go_wp2_with fail
              refine (HIA.out _ (HP.out.below hb04)).mono ?_
              rintro e wq ⟨rfl, hb5⟩
              have hbq := hb04.trans (hb5.mono hb04.size)
              clear hb5 hb04 HIA
              have hab : o1 = false → o2 = false → xab = false := fun q1 q2 => by
                have h := (HAND2.out (HO1.out q1) (HO2.out q2)).2
                rw [HXAB.out, HXA.out, HYB.out] at h
                exact h
              obtain ⟨cnd, hcnd⟩ : ∃ c, ((!o1 && !o2) && (xab != false)) = c := ⟨_, rfl⟩
              have hcf : cnd = false := by
                rw [← hcnd]
                cases o1 <;> cases o2 <;> first | rfl | (rw [hab rfl rfl]; rfl)
              subst hcf
              cases o1 <;> cases o2
              · obtain rfl := hab rfl rfl
                have HCAT2 := Lib.hid (show ∀ W v, RulesAt W v [(fewW, a.data.toList), (zeroW, b.data.toList)] → PlurW W → Calls Tryz.prog 10 #[v, .string s] W fun e w' => e = .returned (.tuple #[strv othW, .int .i64 0]) ∧ Below W.heap.size W w' from fun W v h1 h2 => by
                  have h := pcategory_any [(fewW, a.data.toList), (zeroW, b.data.toList)] v s W h1 (by show 2 ≤ 1000000; decide) HLZ.out (by omega) h2
                  rw [HTWO.out.1, HTWO.out.2, HXA.out, HYB.out] at h
                  exact h)
                have HBOTH := Lib.hid (show ∀ W v nv, RulesAt W v [(fewW, a.data.toList), (zeroW, b.data.toList)] → PlurW W → StrsAt W nv [othW, fewW] → Calls Tryz.prog 11 #[v, .string s, nv] W fun e w' => e = .returned (.tuple #[strv othW, .int .i64 0, .int .i64 0]) ∧ Below W.heap.size W w' from fun W v nv h1 h2 h3 => by
                  have h := pboth_any [(fewW, a.data.toList), (zeroW, b.data.toList)] v s nv [othW, fewW] W h1 (by show 2 ≤ 1000000; decide) HLZ.out (by omega) h2 h3 (by show 2 ≤ 100000; decide) (by decide)
                  rw [HTWO.out.1, HTWO.out.2, HXA.out, HYB.out] at h
                  exact h)
                go_wp2_with fail
                refine calls_gen ?_
                intro W2 hW2
                have hbW2 : Below wq.heap.size wq W2 := by rw [hW2]; exact (Below.refl _ _).alloc (Nat.le_refl _) _
                have hr2 : RulesAt W2 (.slice (some ⟨wq.heap.size, 0, none⟩) 2 2) [(fewW, a.data.toList), (zeroW, b.data.toList)] := by
                  rw [hW2]
                  refine ⟨_, _, rfl, fun j hj => ⟨_, _, rfl, ?_, ?_⟩⟩
                  · match j, hj with
                    | 0, _ => exact cell_made _ _ _ _ _
                    | 1, _ => exact cell_made _ _ _ _ _
                  · match j, hj with
                    | 0, _ => rw [cell_made]; simp
                    | 1, _ => rw [cell_made]; simp
                clear hW2
                have hbq2 := hbq.trans (hbW2.mono hbq.size)
                have HR2 := Lib.hid hr2
                refine (HCAT2.out W2 _ hr2 (HP.out.below hbq2)).mono ?_
                rintro e w3 ⟨rfl, hb3⟩
                have hbq3 := hbq2.trans (hb3.mono hbq2.size)
                have HR3 := Lib.hid (HR2.out.below hb3)
                clear hr2 hb3 hbW2 hbq2 hbq HR2
                go_wp2_with fail
                refine calls_gen ?_
                intro W4 hW4
                have hbW4 : Below w3.heap.size w3 W4 := by rw [hW4]; exact (Below.refl _ _).alloc (Nat.le_refl _) _
                have hn4 : StrsAt W4 (.slice (some ⟨w3.heap.size, 0, none⟩) 2 2) [othW, fewW] := by
                  rw [hW4]
                  refine ⟨_, _, rfl, Nat.le_refl _, by decide, (fun q => by cases q), fun j hj => ⟨_, rfl, ?_⟩⟩
                  rw [addr_add0, cell_made]
                  match j, hj with
                  | 0, _ => rfl
                  | 1, _ => rfl
                clear hW4
                have hbq4 := hbq3.trans (hbW4.mono hbq3.size)
                refine (HBOTH.out W4 _ _ (HR3.out.below hbW4) (HP.out.below hbq4) hn4).mono ?_
                rintro e w5 ⟨rfl, hb5⟩
                have hbq5 := hbq4.trans (hb5.mono hbq4.size)
                clear hb5 hbq4 hn4 hbW4 hbq3
                go_wp2
                go_ret
                exact ⟨rfl, hbq5⟩
              · clear hab
                have HCAT2 := Lib.hid (show ∀ W v, RulesAt W v [(fewW, a.data.toList), (zeroW, b.data.toList)] → PlurW W → Calls Tryz.prog 10 #[v, .string s] W fun e w' => e = .returned (.tuple #[strv othW, .int .i64 0]) ∧ Below W.heap.size W w' from fun W v h1 h2 => by
                  have h := pcategory_any [(fewW, a.data.toList), (zeroW, b.data.toList)] v s W h1 (by show 2 ≤ 1000000; decide) HLZ.out (by omega) h2
                  rw [HTWO.out.1, HTWO.out.2, HXA.out, HYB.out] at h
                  exact h)
                have HBOTH := Lib.hid (show ∀ W v nv, RulesAt W v [(fewW, a.data.toList), (zeroW, b.data.toList)] → PlurW W → StrsAt W nv [othW, fewW] → Calls Tryz.prog 11 #[v, .string s, nv] W fun e w' => e = .returned (.tuple #[strv othW, .int .i64 0, .int .i64 0]) ∧ Below W.heap.size W w' from fun W v nv h1 h2 h3 => by
                  have h := pboth_any [(fewW, a.data.toList), (zeroW, b.data.toList)] v s nv [othW, fewW] W h1 (by show 2 ≤ 1000000; decide) HLZ.out (by omega) h2 h3 (by show 2 ≤ 100000; decide) (by decide)
                  rw [HTWO.out.1, HTWO.out.2, HXA.out, HYB.out] at h
                  exact h)
                go_wp2_with fail
                refine calls_gen ?_
                intro W2 hW2
                have hbW2 : Below wq.heap.size wq W2 := by rw [hW2]; exact (Below.refl _ _).alloc (Nat.le_refl _) _
                have hr2 : RulesAt W2 (.slice (some ⟨wq.heap.size, 0, none⟩) 2 2) [(fewW, a.data.toList), (zeroW, b.data.toList)] := by
                  rw [hW2]
                  refine ⟨_, _, rfl, fun j hj => ⟨_, _, rfl, ?_, ?_⟩⟩
                  · match j, hj with
                    | 0, _ => exact cell_made _ _ _ _ _
                    | 1, _ => exact cell_made _ _ _ _ _
                  · match j, hj with
                    | 0, _ => rw [cell_made]; simp
                    | 1, _ => rw [cell_made]; simp
                clear hW2
                have hbq2 := hbq.trans (hbW2.mono hbq.size)
                have HR2 := Lib.hid hr2
                refine (HCAT2.out W2 _ hr2 (HP.out.below hbq2)).mono ?_
                rintro e w3 ⟨rfl, hb3⟩
                have hbq3 := hbq2.trans (hb3.mono hbq2.size)
                have HR3 := Lib.hid (HR2.out.below hb3)
                clear hr2 hb3 hbW2 hbq2 hbq HR2
                go_wp2_with fail
                refine calls_gen ?_
                intro W4 hW4
                have hbW4 : Below w3.heap.size w3 W4 := by rw [hW4]; exact (Below.refl _ _).alloc (Nat.le_refl _) _
                have hn4 : StrsAt W4 (.slice (some ⟨w3.heap.size, 0, none⟩) 2 2) [othW, fewW] := by
                  rw [hW4]
                  refine ⟨_, _, rfl, Nat.le_refl _, by decide, (fun q => by cases q), fun j hj => ⟨_, rfl, ?_⟩⟩
                  rw [addr_add0, cell_made]
                  match j, hj with
                  | 0, _ => rfl
                  | 1, _ => rfl
                clear hW4
                have hbq4 := hbq3.trans (hbW4.mono hbq3.size)
                refine (HBOTH.out W4 _ _ (HR3.out.below hbW4) (HP.out.below hbq4) hn4).mono ?_
                rintro e w5 ⟨rfl, hb5⟩
                have hbq5 := hbq4.trans (hb5.mono hbq4.size)
                clear hb5 hbq4 hn4 hbW4 hbq3
                go_wp2
                go_ret
                exact ⟨rfl, hbq5⟩
              · clear hab
                have HCAT2 := Lib.hid (show ∀ W v, RulesAt W v [(fewW, a.data.toList), (zeroW, b.data.toList)] → PlurW W → Calls Tryz.prog 10 #[v, .string s] W fun e w' => e = .returned (.tuple #[strv othW, .int .i64 0]) ∧ Below W.heap.size W w' from fun W v h1 h2 => by
                  have h := pcategory_any [(fewW, a.data.toList), (zeroW, b.data.toList)] v s W h1 (by show 2 ≤ 1000000; decide) HLZ.out (by omega) h2
                  rw [HTWO.out.1, HTWO.out.2, HXA.out, HYB.out] at h
                  exact h)
                have HBOTH := Lib.hid (show ∀ W v nv, RulesAt W v [(fewW, a.data.toList), (zeroW, b.data.toList)] → PlurW W → StrsAt W nv [othW, fewW] → Calls Tryz.prog 11 #[v, .string s, nv] W fun e w' => e = .returned (.tuple #[strv othW, .int .i64 0, .int .i64 0]) ∧ Below W.heap.size W w' from fun W v nv h1 h2 h3 => by
                  have h := pboth_any [(fewW, a.data.toList), (zeroW, b.data.toList)] v s nv [othW, fewW] W h1 (by show 2 ≤ 1000000; decide) HLZ.out (by omega) h2 h3 (by show 2 ≤ 100000; decide) (by decide)
                  rw [HTWO.out.1, HTWO.out.2, HXA.out, HYB.out] at h
                  exact h)
                go_wp2_with fail
                refine calls_gen ?_
                intro W2 hW2
                have hbW2 : Below wq.heap.size wq W2 := by rw [hW2]; exact (Below.refl _ _).alloc (Nat.le_refl _) _
                have hr2 : RulesAt W2 (.slice (some ⟨wq.heap.size, 0, none⟩) 2 2) [(fewW, a.data.toList), (zeroW, b.data.toList)] := by
                  rw [hW2]
                  refine ⟨_, _, rfl, fun j hj => ⟨_, _, rfl, ?_, ?_⟩⟩
                  · match j, hj with
                    | 0, _ => exact cell_made _ _ _ _ _
                    | 1, _ => exact cell_made _ _ _ _ _
                  · match j, hj with
                    | 0, _ => rw [cell_made]; simp
                    | 1, _ => rw [cell_made]; simp
                clear hW2
                have hbq2 := hbq.trans (hbW2.mono hbq.size)
                have HR2 := Lib.hid hr2
                refine (HCAT2.out W2 _ hr2 (HP.out.below hbq2)).mono ?_
                rintro e w3 ⟨rfl, hb3⟩
                have hbq3 := hbq2.trans (hb3.mono hbq2.size)
                have HR3 := Lib.hid (HR2.out.below hb3)
                clear hr2 hb3 hbW2 hbq2 hbq HR2
                go_wp2_with fail
                refine calls_gen ?_
                intro W4 hW4
                have hbW4 : Below w3.heap.size w3 W4 := by rw [hW4]; exact (Below.refl _ _).alloc (Nat.le_refl _) _
                have hn4 : StrsAt W4 (.slice (some ⟨w3.heap.size, 0, none⟩) 2 2) [othW, fewW] := by
                  rw [hW4]
                  refine ⟨_, _, rfl, Nat.le_refl _, by decide, (fun q => by cases q), fun j hj => ⟨_, rfl, ?_⟩⟩
                  rw [addr_add0, cell_made]
                  match j, hj with
                  | 0, _ => rfl
                  | 1, _ => rfl
                clear hW4
                have hbq4 := hbq3.trans (hbW4.mono hbq3.size)
                refine (HBOTH.out W4 _ _ (HR3.out.below hbW4) (HP.out.below hbq4) hn4).mono ?_
                rintro e w5 ⟨rfl, hb5⟩
                have hbq5 := hbq4.trans (hb5.mono hbq4.size)
                clear hb5 hbq4 hn4 hbW4 hbq3
                go_wp2
                go_ret
                exact ⟨rfl, hbq5⟩
              · clear hab
                have HCAT2 := Lib.hid (show ∀ W v, RulesAt W v [(fewW, a.data.toList), (zeroW, b.data.toList)] → PlurW W → Calls Tryz.prog 10 #[v, .string s] W fun e w' => e = .returned (.tuple #[strv othW, .int .i64 0]) ∧ Below W.heap.size W w' from fun W v h1 h2 => by
                  have h := pcategory_any [(fewW, a.data.toList), (zeroW, b.data.toList)] v s W h1 (by show 2 ≤ 1000000; decide) HLZ.out (by omega) h2
                  rw [HTWO.out.1, HTWO.out.2, HXA.out, HYB.out] at h
                  exact h)
                have HBOTH := Lib.hid (show ∀ W v nv, RulesAt W v [(fewW, a.data.toList), (zeroW, b.data.toList)] → PlurW W → StrsAt W nv [othW, fewW] → Calls Tryz.prog 11 #[v, .string s, nv] W fun e w' => e = .returned (.tuple #[strv othW, .int .i64 0, .int .i64 0]) ∧ Below W.heap.size W w' from fun W v nv h1 h2 h3 => by
                  have h := pboth_any [(fewW, a.data.toList), (zeroW, b.data.toList)] v s nv [othW, fewW] W h1 (by show 2 ≤ 1000000; decide) HLZ.out (by omega) h2 h3 (by show 2 ≤ 100000; decide) (by decide)
                  rw [HTWO.out.1, HTWO.out.2, HXA.out, HYB.out] at h
                  exact h)
                go_wp2_with fail
                refine calls_gen ?_
                intro W2 hW2
                have hbW2 : Below wq.heap.size wq W2 := by rw [hW2]; exact (Below.refl _ _).alloc (Nat.le_refl _) _
                have hr2 : RulesAt W2 (.slice (some ⟨wq.heap.size, 0, none⟩) 2 2) [(fewW, a.data.toList), (zeroW, b.data.toList)] := by
                  rw [hW2]
                  refine ⟨_, _, rfl, fun j hj => ⟨_, _, rfl, ?_, ?_⟩⟩
                  · match j, hj with
                    | 0, _ => exact cell_made _ _ _ _ _
                    | 1, _ => exact cell_made _ _ _ _ _
                  · match j, hj with
                    | 0, _ => rw [cell_made]; simp
                    | 1, _ => rw [cell_made]; simp
                clear hW2
                have hbq2 := hbq.trans (hbW2.mono hbq.size)
                have HR2 := Lib.hid hr2
                refine (HCAT2.out W2 _ hr2 (HP.out.below hbq2)).mono ?_
                rintro e w3 ⟨rfl, hb3⟩
                have hbq3 := hbq2.trans (hb3.mono hbq2.size)
                have HR3 := Lib.hid (HR2.out.below hb3)
                clear hr2 hb3 hbW2 hbq2 hbq HR2
                go_wp2_with fail
                refine calls_gen ?_
                intro W4 hW4
                have hbW4 : Below w3.heap.size w3 W4 := by rw [hW4]; exact (Below.refl _ _).alloc (Nat.le_refl _) _
                have hn4 : StrsAt W4 (.slice (some ⟨w3.heap.size, 0, none⟩) 2 2) [othW, fewW] := by
                  rw [hW4]
                  refine ⟨_, _, rfl, Nat.le_refl _, by decide, (fun q => by cases q), fun j hj => ⟨_, rfl, ?_⟩⟩
                  rw [addr_add0, cell_made]
                  match j, hj with
                  | 0, _ => rfl
                  | 1, _ => rfl
                clear hW4
                have hbq4 := hbq3.trans (hbW4.mono hbq3.size)
                refine (HBOTH.out W4 _ _ (HR3.out.below hbW4) (HP.out.below hbq4) hn4).mono ?_
                rintro e w5 ⟨rfl, hb5⟩
                have hbq5 := hbq4.trans (hb5.mono hbq4.size)
                clear hb5 hbq4 hn4 hbW4 hbq3
                go_wp2
                go_ret
                exact ⟨rfl, hbq5⟩
            · go_wp2_with fail
              refine (HOR1.out w4).mono ?_
              rintro e w' ⟨rfl, o1, rfl, ho1⟩
              have HO1 := Lib.hid ho1
              clear ho1
              go_wp2_with fail
              refine (HOR2.out w4).mono ?_
              rintro e w' ⟨rfl, o2, rfl, ho2⟩
              have HO2 := Lib.hid ho2
              clear ho2
              go_wp2_with fail
              refine (HIA.out _ (HP.out.below hb04)).mono ?_
              rintro e wq ⟨rfl, hb5⟩
              have hbq := hb04.trans (hb5.mono hb04.size)
              clear hb5 hb04 HIA
              have hab : o1 = false → o2 = false → xab = false := fun q1 q2 => by
                have h := (HAND2.out (HO1.out q1) (HO2.out q2)).2
                rw [HXAB.out, HXA.out, HYB.out] at h
                exact h
              obtain ⟨cnd, hcnd⟩ : ∃ c, ((!o1 && !o2) && (xab != false)) = c := ⟨_, rfl⟩
              have hcf : cnd = false := by
                rw [← hcnd]
                cases o1 <;> cases o2 <;> first | rfl | (rw [hab rfl rfl]; rfl)
              subst hcf
              cases o1 <;> cases o2
              · obtain rfl := hab rfl rfl
                have HCAT2 := Lib.hid (show ∀ W v, RulesAt W v [(fewW, a.data.toList), (zeroW, b.data.toList)] → PlurW W → Calls Tryz.prog 10 #[v, .string s] W fun e w' => e = .returned (.tuple #[strv zeroW, .int .i64 0]) ∧ Below W.heap.size W w' from fun W v h1 h2 => by
                  have h := pcategory_any [(fewW, a.data.toList), (zeroW, b.data.toList)] v s W h1 (by show 2 ≤ 1000000; decide) HLZ.out (by omega) h2
                  rw [HTWO.out.1, HTWO.out.2, HXA.out, HYB.out] at h
                  exact h)
                have HBOTH := Lib.hid (show ∀ W v nv, RulesAt W v [(fewW, a.data.toList), (zeroW, b.data.toList)] → PlurW W → StrsAt W nv [othW, fewW] → Calls Tryz.prog 11 #[v, .string s, nv] W fun e w' => e = .returned (.tuple #[strv othW, .int .i64 0, .int .i64 0]) ∧ Below W.heap.size W w' from fun W v nv h1 h2 h3 => by
                  have h := pboth_any [(fewW, a.data.toList), (zeroW, b.data.toList)] v s nv [othW, fewW] W h1 (by show 2 ≤ 1000000; decide) HLZ.out (by omega) h2 h3 (by show 2 ≤ 100000; decide) (by decide)
                  rw [HTWO.out.1, HTWO.out.2, HXA.out, HYB.out] at h
                  exact h)
                go_wp2_with fail
                refine calls_gen ?_
                intro W2 hW2
                have hbW2 : Below wq.heap.size wq W2 := by rw [hW2]; exact (Below.refl _ _).alloc (Nat.le_refl _) _
                have hr2 : RulesAt W2 (.slice (some ⟨wq.heap.size, 0, none⟩) 2 2) [(fewW, a.data.toList), (zeroW, b.data.toList)] := by
                  rw [hW2]
                  refine ⟨_, _, rfl, fun j hj => ⟨_, _, rfl, ?_, ?_⟩⟩
                  · match j, hj with
                    | 0, _ => exact cell_made _ _ _ _ _
                    | 1, _ => exact cell_made _ _ _ _ _
                  · match j, hj with
                    | 0, _ => rw [cell_made]; simp
                    | 1, _ => rw [cell_made]; simp
                clear hW2
                have hbq2 := hbq.trans (hbW2.mono hbq.size)
                have HR2 := Lib.hid hr2
                refine (HCAT2.out W2 _ hr2 (HP.out.below hbq2)).mono ?_
                rintro e w3 ⟨rfl, hb3⟩
                have hbq3 := hbq2.trans (hb3.mono hbq2.size)
                have HR3 := Lib.hid (HR2.out.below hb3)
                clear hr2 hb3 hbW2 hbq2 hbq HR2
                go_wp2_with fail
                refine calls_gen ?_
                intro W4 hW4
                have hbW4 : Below w3.heap.size w3 W4 := by rw [hW4]; exact (Below.refl _ _).alloc (Nat.le_refl _) _
                have hn4 : StrsAt W4 (.slice (some ⟨w3.heap.size, 0, none⟩) 2 2) [othW, fewW] := by
                  rw [hW4]
                  refine ⟨_, _, rfl, Nat.le_refl _, by decide, (fun q => by cases q), fun j hj => ⟨_, rfl, ?_⟩⟩
                  rw [addr_add0, cell_made]
                  match j, hj with
                  | 0, _ => rfl
                  | 1, _ => rfl
                clear hW4
                have hbq4 := hbq3.trans (hbW4.mono hbq3.size)
                refine (HBOTH.out W4 _ _ (HR3.out.below hbW4) (HP.out.below hbq4) hn4).mono ?_
                rintro e w5 ⟨rfl, hb5⟩
                have hbq5 := hbq4.trans (hb5.mono hbq4.size)
                clear hb5 hbq4 hn4 hbW4 hbq3
                go_wp2
                go_ret
                exact ⟨rfl, hbq5⟩
              · clear hab
                have HCAT2 := Lib.hid (show ∀ W v, RulesAt W v [(fewW, a.data.toList), (zeroW, b.data.toList)] → PlurW W → Calls Tryz.prog 10 #[v, .string s] W fun e w' => e = .returned (.tuple #[strv zeroW, .int .i64 0]) ∧ Below W.heap.size W w' from fun W v h1 h2 => by
                  have h := pcategory_any [(fewW, a.data.toList), (zeroW, b.data.toList)] v s W h1 (by show 2 ≤ 1000000; decide) HLZ.out (by omega) h2
                  rw [HTWO.out.1, HTWO.out.2, HXA.out, HYB.out] at h
                  exact h)
                have HBOTH := Lib.hid (show ∀ W v nv, RulesAt W v [(fewW, a.data.toList), (zeroW, b.data.toList)] → PlurW W → StrsAt W nv [othW, fewW] → Calls Tryz.prog 11 #[v, .string s, nv] W fun e w' => e = .returned (.tuple #[strv othW, .int .i64 0, .int .i64 0]) ∧ Below W.heap.size W w' from fun W v nv h1 h2 h3 => by
                  have h := pboth_any [(fewW, a.data.toList), (zeroW, b.data.toList)] v s nv [othW, fewW] W h1 (by show 2 ≤ 1000000; decide) HLZ.out (by omega) h2 h3 (by show 2 ≤ 100000; decide) (by decide)
                  rw [HTWO.out.1, HTWO.out.2, HXA.out, HYB.out] at h
                  exact h)
                go_wp2_with fail
                refine calls_gen ?_
                intro W2 hW2
                have hbW2 : Below wq.heap.size wq W2 := by rw [hW2]; exact (Below.refl _ _).alloc (Nat.le_refl _) _
                have hr2 : RulesAt W2 (.slice (some ⟨wq.heap.size, 0, none⟩) 2 2) [(fewW, a.data.toList), (zeroW, b.data.toList)] := by
                  rw [hW2]
                  refine ⟨_, _, rfl, fun j hj => ⟨_, _, rfl, ?_, ?_⟩⟩
                  · match j, hj with
                    | 0, _ => exact cell_made _ _ _ _ _
                    | 1, _ => exact cell_made _ _ _ _ _
                  · match j, hj with
                    | 0, _ => rw [cell_made]; simp
                    | 1, _ => rw [cell_made]; simp
                clear hW2
                have hbq2 := hbq.trans (hbW2.mono hbq.size)
                have HR2 := Lib.hid hr2
                refine (HCAT2.out W2 _ hr2 (HP.out.below hbq2)).mono ?_
                rintro e w3 ⟨rfl, hb3⟩
                have hbq3 := hbq2.trans (hb3.mono hbq2.size)
                have HR3 := Lib.hid (HR2.out.below hb3)
                clear hr2 hb3 hbW2 hbq2 hbq HR2
                go_wp2_with fail
                refine calls_gen ?_
                intro W4 hW4
                have hbW4 : Below w3.heap.size w3 W4 := by rw [hW4]; exact (Below.refl _ _).alloc (Nat.le_refl _) _
                have hn4 : StrsAt W4 (.slice (some ⟨w3.heap.size, 0, none⟩) 2 2) [othW, fewW] := by
                  rw [hW4]
                  refine ⟨_, _, rfl, Nat.le_refl _, by decide, (fun q => by cases q), fun j hj => ⟨_, rfl, ?_⟩⟩
                  rw [addr_add0, cell_made]
                  match j, hj with
                  | 0, _ => rfl
                  | 1, _ => rfl
                clear hW4
                have hbq4 := hbq3.trans (hbW4.mono hbq3.size)
                refine (HBOTH.out W4 _ _ (HR3.out.below hbW4) (HP.out.below hbq4) hn4).mono ?_
                rintro e w5 ⟨rfl, hb5⟩
                have hbq5 := hbq4.trans (hb5.mono hbq4.size)
                clear hb5 hbq4 hn4 hbW4 hbq3
                go_wp2
                go_ret
                exact ⟨rfl, hbq5⟩
              · clear hab
                have HCAT2 := Lib.hid (show ∀ W v, RulesAt W v [(fewW, a.data.toList), (zeroW, b.data.toList)] → PlurW W → Calls Tryz.prog 10 #[v, .string s] W fun e w' => e = .returned (.tuple #[strv zeroW, .int .i64 0]) ∧ Below W.heap.size W w' from fun W v h1 h2 => by
                  have h := pcategory_any [(fewW, a.data.toList), (zeroW, b.data.toList)] v s W h1 (by show 2 ≤ 1000000; decide) HLZ.out (by omega) h2
                  rw [HTWO.out.1, HTWO.out.2, HXA.out, HYB.out] at h
                  exact h)
                have HBOTH := Lib.hid (show ∀ W v nv, RulesAt W v [(fewW, a.data.toList), (zeroW, b.data.toList)] → PlurW W → StrsAt W nv [othW, fewW] → Calls Tryz.prog 11 #[v, .string s, nv] W fun e w' => e = .returned (.tuple #[strv othW, .int .i64 0, .int .i64 0]) ∧ Below W.heap.size W w' from fun W v nv h1 h2 h3 => by
                  have h := pboth_any [(fewW, a.data.toList), (zeroW, b.data.toList)] v s nv [othW, fewW] W h1 (by show 2 ≤ 1000000; decide) HLZ.out (by omega) h2 h3 (by show 2 ≤ 100000; decide) (by decide)
                  rw [HTWO.out.1, HTWO.out.2, HXA.out, HYB.out] at h
                  exact h)
                go_wp2_with fail
                refine calls_gen ?_
                intro W2 hW2
                have hbW2 : Below wq.heap.size wq W2 := by rw [hW2]; exact (Below.refl _ _).alloc (Nat.le_refl _) _
                have hr2 : RulesAt W2 (.slice (some ⟨wq.heap.size, 0, none⟩) 2 2) [(fewW, a.data.toList), (zeroW, b.data.toList)] := by
                  rw [hW2]
                  refine ⟨_, _, rfl, fun j hj => ⟨_, _, rfl, ?_, ?_⟩⟩
                  · match j, hj with
                    | 0, _ => exact cell_made _ _ _ _ _
                    | 1, _ => exact cell_made _ _ _ _ _
                  · match j, hj with
                    | 0, _ => rw [cell_made]; simp
                    | 1, _ => rw [cell_made]; simp
                clear hW2
                have hbq2 := hbq.trans (hbW2.mono hbq.size)
                have HR2 := Lib.hid hr2
                refine (HCAT2.out W2 _ hr2 (HP.out.below hbq2)).mono ?_
                rintro e w3 ⟨rfl, hb3⟩
                have hbq3 := hbq2.trans (hb3.mono hbq2.size)
                have HR3 := Lib.hid (HR2.out.below hb3)
                clear hr2 hb3 hbW2 hbq2 hbq HR2
                go_wp2_with fail
                refine calls_gen ?_
                intro W4 hW4
                have hbW4 : Below w3.heap.size w3 W4 := by rw [hW4]; exact (Below.refl _ _).alloc (Nat.le_refl _) _
                have hn4 : StrsAt W4 (.slice (some ⟨w3.heap.size, 0, none⟩) 2 2) [othW, fewW] := by
                  rw [hW4]
                  refine ⟨_, _, rfl, Nat.le_refl _, by decide, (fun q => by cases q), fun j hj => ⟨_, rfl, ?_⟩⟩
                  rw [addr_add0, cell_made]
                  match j, hj with
                  | 0, _ => rfl
                  | 1, _ => rfl
                clear hW4
                have hbq4 := hbq3.trans (hbW4.mono hbq3.size)
                refine (HBOTH.out W4 _ _ (HR3.out.below hbW4) (HP.out.below hbq4) hn4).mono ?_
                rintro e w5 ⟨rfl, hb5⟩
                have hbq5 := hbq4.trans (hb5.mono hbq4.size)
                clear hb5 hbq4 hn4 hbW4 hbq3
                go_wp2
                go_ret
                exact ⟨rfl, hbq5⟩
              · clear hab
                have HCAT2 := Lib.hid (show ∀ W v, RulesAt W v [(fewW, a.data.toList), (zeroW, b.data.toList)] → PlurW W → Calls Tryz.prog 10 #[v, .string s] W fun e w' => e = .returned (.tuple #[strv zeroW, .int .i64 0]) ∧ Below W.heap.size W w' from fun W v h1 h2 => by
                  have h := pcategory_any [(fewW, a.data.toList), (zeroW, b.data.toList)] v s W h1 (by show 2 ≤ 1000000; decide) HLZ.out (by omega) h2
                  rw [HTWO.out.1, HTWO.out.2, HXA.out, HYB.out] at h
                  exact h)
                have HBOTH := Lib.hid (show ∀ W v nv, RulesAt W v [(fewW, a.data.toList), (zeroW, b.data.toList)] → PlurW W → StrsAt W nv [othW, fewW] → Calls Tryz.prog 11 #[v, .string s, nv] W fun e w' => e = .returned (.tuple #[strv othW, .int .i64 0, .int .i64 0]) ∧ Below W.heap.size W w' from fun W v nv h1 h2 h3 => by
                  have h := pboth_any [(fewW, a.data.toList), (zeroW, b.data.toList)] v s nv [othW, fewW] W h1 (by show 2 ≤ 1000000; decide) HLZ.out (by omega) h2 h3 (by show 2 ≤ 100000; decide) (by decide)
                  rw [HTWO.out.1, HTWO.out.2, HXA.out, HYB.out] at h
                  exact h)
                go_wp2_with fail
                refine calls_gen ?_
                intro W2 hW2
                have hbW2 : Below wq.heap.size wq W2 := by rw [hW2]; exact (Below.refl _ _).alloc (Nat.le_refl _) _
                have hr2 : RulesAt W2 (.slice (some ⟨wq.heap.size, 0, none⟩) 2 2) [(fewW, a.data.toList), (zeroW, b.data.toList)] := by
                  rw [hW2]
                  refine ⟨_, _, rfl, fun j hj => ⟨_, _, rfl, ?_, ?_⟩⟩
                  · match j, hj with
                    | 0, _ => exact cell_made _ _ _ _ _
                    | 1, _ => exact cell_made _ _ _ _ _
                  · match j, hj with
                    | 0, _ => rw [cell_made]; simp
                    | 1, _ => rw [cell_made]; simp
                clear hW2
                have hbq2 := hbq.trans (hbW2.mono hbq.size)
                have HR2 := Lib.hid hr2
                refine (HCAT2.out W2 _ hr2 (HP.out.below hbq2)).mono ?_
                rintro e w3 ⟨rfl, hb3⟩
                have hbq3 := hbq2.trans (hb3.mono hbq2.size)
                have HR3 := Lib.hid (HR2.out.below hb3)
                clear hr2 hb3 hbW2 hbq2 hbq HR2
                go_wp2_with fail
                refine calls_gen ?_
                intro W4 hW4
                have hbW4 : Below w3.heap.size w3 W4 := by rw [hW4]; exact (Below.refl _ _).alloc (Nat.le_refl _) _
                have hn4 : StrsAt W4 (.slice (some ⟨w3.heap.size, 0, none⟩) 2 2) [othW, fewW] := by
                  rw [hW4]
                  refine ⟨_, _, rfl, Nat.le_refl _, by decide, (fun q => by cases q), fun j hj => ⟨_, rfl, ?_⟩⟩
                  rw [addr_add0, cell_made]
                  match j, hj with
                  | 0, _ => rfl
                  | 1, _ => rfl
                clear hW4
                have hbq4 := hbq3.trans (hbW4.mono hbq3.size)
                refine (HBOTH.out W4 _ _ (HR3.out.below hbW4) (HP.out.below hbq4) hn4).mono ?_
                rintro e w5 ⟨rfl, hb5⟩
                have hbq5 := hbq4.trans (hb5.mono hbq4.size)
                clear hb5 hbq4 hn4 hbW4 hbq3
                go_wp2
                go_ret
                exact ⟨rfl, hbq5⟩
            · go_wp2_with fail
              refine (HOR1.out w4).mono ?_
              rintro e w' ⟨rfl, o1, rfl, ho1⟩
              have HO1 := Lib.hid ho1
              clear ho1
              go_wp2_with fail
              refine (HOR2.out w4).mono ?_
              rintro e w' ⟨rfl, o2, rfl, ho2⟩
              have HO2 := Lib.hid ho2
              clear ho2
              go_wp2_with fail
              refine (HIA.out _ (HP.out.below hb04)).mono ?_
              rintro e wq ⟨rfl, hb5⟩
              have hbq := hb04.trans (hb5.mono hb04.size)
              clear hb5 hb04 HIA
              have hab : o1 = false → o2 = false → xab = false := fun q1 q2 => by
                have h := (HAND2.out (HO1.out q1) (HO2.out q2)).2
                rw [HXAB.out, HXA.out, HYB.out] at h
                exact h
              obtain ⟨cnd, hcnd⟩ : ∃ c, ((!o1 && !o2) && (xab != false)) = c := ⟨_, rfl⟩
              have hcf : cnd = false := by
                rw [← hcnd]
                cases o1 <;> cases o2 <;> first | rfl | (rw [hab rfl rfl]; rfl)
              subst hcf
              cases o1 <;> cases o2
              · obtain rfl := hab rfl rfl
                have HCAT2 := Lib.hid (show ∀ W v, RulesAt W v [(fewW, a.data.toList), (zeroW, b.data.toList)] → PlurW W → Calls Tryz.prog 10 #[v, .string s] W fun e w' => e = .returned (.tuple #[strv fewW, .int .i64 0]) ∧ Below W.heap.size W w' from fun W v h1 h2 => by
                  have h := pcategory_any [(fewW, a.data.toList), (zeroW, b.data.toList)] v s W h1 (by show 2 ≤ 1000000; decide) HLZ.out (by omega) h2
                  rw [HTWO.out.1, HTWO.out.2, HXA.out, HYB.out] at h
                  exact h)
                have HBOTH := Lib.hid (show ∀ W v nv, RulesAt W v [(fewW, a.data.toList), (zeroW, b.data.toList)] → PlurW W → StrsAt W nv [othW, fewW] → Calls Tryz.prog 11 #[v, .string s, nv] W fun e w' => e = .returned (.tuple #[strv fewW, .int .i64 1, .int .i64 0]) ∧ Below W.heap.size W w' from fun W v nv h1 h2 h3 => by
                  have h := pboth_any [(fewW, a.data.toList), (zeroW, b.data.toList)] v s nv [othW, fewW] W h1 (by show 2 ≤ 1000000; decide) HLZ.out (by omega) h2 h3 (by show 2 ≤ 100000; decide) (by decide)
                  rw [HTWO.out.1, HTWO.out.2, HXA.out, HYB.out] at h
                  exact h)
                go_wp2_with fail
                refine calls_gen ?_
                intro W2 hW2
                have hbW2 : Below wq.heap.size wq W2 := by rw [hW2]; exact (Below.refl _ _).alloc (Nat.le_refl _) _
                have hr2 : RulesAt W2 (.slice (some ⟨wq.heap.size, 0, none⟩) 2 2) [(fewW, a.data.toList), (zeroW, b.data.toList)] := by
                  rw [hW2]
                  refine ⟨_, _, rfl, fun j hj => ⟨_, _, rfl, ?_, ?_⟩⟩
                  · match j, hj with
                    | 0, _ => exact cell_made _ _ _ _ _
                    | 1, _ => exact cell_made _ _ _ _ _
                  · match j, hj with
                    | 0, _ => rw [cell_made]; simp
                    | 1, _ => rw [cell_made]; simp
                clear hW2
                have hbq2 := hbq.trans (hbW2.mono hbq.size)
                have HR2 := Lib.hid hr2
                refine (HCAT2.out W2 _ hr2 (HP.out.below hbq2)).mono ?_
                rintro e w3 ⟨rfl, hb3⟩
                have hbq3 := hbq2.trans (hb3.mono hbq2.size)
                have HR3 := Lib.hid (HR2.out.below hb3)
                clear hr2 hb3 hbW2 hbq2 hbq HR2
                go_wp2_with fail
                refine calls_gen ?_
                intro W4 hW4
                have hbW4 : Below w3.heap.size w3 W4 := by rw [hW4]; exact (Below.refl _ _).alloc (Nat.le_refl _) _
                have hn4 : StrsAt W4 (.slice (some ⟨w3.heap.size, 0, none⟩) 2 2) [othW, fewW] := by
                  rw [hW4]
                  refine ⟨_, _, rfl, Nat.le_refl _, by decide, (fun q => by cases q), fun j hj => ⟨_, rfl, ?_⟩⟩
                  rw [addr_add0, cell_made]
                  match j, hj with
                  | 0, _ => rfl
                  | 1, _ => rfl
                clear hW4
                have hbq4 := hbq3.trans (hbW4.mono hbq3.size)
                refine (HBOTH.out W4 _ _ (HR3.out.below hbW4) (HP.out.below hbq4) hn4).mono ?_
                rintro e w5 ⟨rfl, hb5⟩
                have hbq5 := hbq4.trans (hb5.mono hbq4.size)
                clear hb5 hbq4 hn4 hbW4 hbq3
                go_wp2
                go_ret
                exact ⟨rfl, hbq5⟩
              · clear hab
                have HCAT2 := Lib.hid (show ∀ W v, RulesAt W v [(fewW, a.data.toList), (zeroW, b.data.toList)] → PlurW W → Calls Tryz.prog 10 #[v, .string s] W fun e w' => e = .returned (.tuple #[strv fewW, .int .i64 0]) ∧ Below W.heap.size W w' from fun W v h1 h2 => by
                  have h := pcategory_any [(fewW, a.data.toList), (zeroW, b.data.toList)] v s W h1 (by show 2 ≤ 1000000; decide) HLZ.out (by omega) h2
                  rw [HTWO.out.1, HTWO.out.2, HXA.out, HYB.out] at h
                  exact h)
                have HBOTH := Lib.hid (show ∀ W v nv, RulesAt W v [(fewW, a.data.toList), (zeroW, b.data.toList)] → PlurW W → StrsAt W nv [othW, fewW] → Calls Tryz.prog 11 #[v, .string s, nv] W fun e w' => e = .returned (.tuple #[strv fewW, .int .i64 1, .int .i64 0]) ∧ Below W.heap.size W w' from fun W v nv h1 h2 h3 => by
                  have h := pboth_any [(fewW, a.data.toList), (zeroW, b.data.toList)] v s nv [othW, fewW] W h1 (by show 2 ≤ 1000000; decide) HLZ.out (by omega) h2 h3 (by show 2 ≤ 100000; decide) (by decide)
                  rw [HTWO.out.1, HTWO.out.2, HXA.out, HYB.out] at h
                  exact h)
                go_wp2_with fail
                refine calls_gen ?_
                intro W2 hW2
                have hbW2 : Below wq.heap.size wq W2 := by rw [hW2]; exact (Below.refl _ _).alloc (Nat.le_refl _) _
                have hr2 : RulesAt W2 (.slice (some ⟨wq.heap.size, 0, none⟩) 2 2) [(fewW, a.data.toList), (zeroW, b.data.toList)] := by
                  rw [hW2]
                  refine ⟨_, _, rfl, fun j hj => ⟨_, _, rfl, ?_, ?_⟩⟩
                  · match j, hj with
                    | 0, _ => exact cell_made _ _ _ _ _
                    | 1, _ => exact cell_made _ _ _ _ _
                  · match j, hj with
                    | 0, _ => rw [cell_made]; simp
                    | 1, _ => rw [cell_made]; simp
                clear hW2
                have hbq2 := hbq.trans (hbW2.mono hbq.size)
                have HR2 := Lib.hid hr2
                refine (HCAT2.out W2 _ hr2 (HP.out.below hbq2)).mono ?_
                rintro e w3 ⟨rfl, hb3⟩
                have hbq3 := hbq2.trans (hb3.mono hbq2.size)
                have HR3 := Lib.hid (HR2.out.below hb3)
                clear hr2 hb3 hbW2 hbq2 hbq HR2
                go_wp2_with fail
                refine calls_gen ?_
                intro W4 hW4
                have hbW4 : Below w3.heap.size w3 W4 := by rw [hW4]; exact (Below.refl _ _).alloc (Nat.le_refl _) _
                have hn4 : StrsAt W4 (.slice (some ⟨w3.heap.size, 0, none⟩) 2 2) [othW, fewW] := by
                  rw [hW4]
                  refine ⟨_, _, rfl, Nat.le_refl _, by decide, (fun q => by cases q), fun j hj => ⟨_, rfl, ?_⟩⟩
                  rw [addr_add0, cell_made]
                  match j, hj with
                  | 0, _ => rfl
                  | 1, _ => rfl
                clear hW4
                have hbq4 := hbq3.trans (hbW4.mono hbq3.size)
                refine (HBOTH.out W4 _ _ (HR3.out.below hbW4) (HP.out.below hbq4) hn4).mono ?_
                rintro e w5 ⟨rfl, hb5⟩
                have hbq5 := hbq4.trans (hb5.mono hbq4.size)
                clear hb5 hbq4 hn4 hbW4 hbq3
                go_wp2
                go_ret
                exact ⟨rfl, hbq5⟩
              · clear hab
                have HCAT2 := Lib.hid (show ∀ W v, RulesAt W v [(fewW, a.data.toList), (zeroW, b.data.toList)] → PlurW W → Calls Tryz.prog 10 #[v, .string s] W fun e w' => e = .returned (.tuple #[strv fewW, .int .i64 0]) ∧ Below W.heap.size W w' from fun W v h1 h2 => by
                  have h := pcategory_any [(fewW, a.data.toList), (zeroW, b.data.toList)] v s W h1 (by show 2 ≤ 1000000; decide) HLZ.out (by omega) h2
                  rw [HTWO.out.1, HTWO.out.2, HXA.out, HYB.out] at h
                  exact h)
                have HBOTH := Lib.hid (show ∀ W v nv, RulesAt W v [(fewW, a.data.toList), (zeroW, b.data.toList)] → PlurW W → StrsAt W nv [othW, fewW] → Calls Tryz.prog 11 #[v, .string s, nv] W fun e w' => e = .returned (.tuple #[strv fewW, .int .i64 1, .int .i64 0]) ∧ Below W.heap.size W w' from fun W v nv h1 h2 h3 => by
                  have h := pboth_any [(fewW, a.data.toList), (zeroW, b.data.toList)] v s nv [othW, fewW] W h1 (by show 2 ≤ 1000000; decide) HLZ.out (by omega) h2 h3 (by show 2 ≤ 100000; decide) (by decide)
                  rw [HTWO.out.1, HTWO.out.2, HXA.out, HYB.out] at h
                  exact h)
                go_wp2_with fail
                refine calls_gen ?_
                intro W2 hW2
                have hbW2 : Below wq.heap.size wq W2 := by rw [hW2]; exact (Below.refl _ _).alloc (Nat.le_refl _) _
                have hr2 : RulesAt W2 (.slice (some ⟨wq.heap.size, 0, none⟩) 2 2) [(fewW, a.data.toList), (zeroW, b.data.toList)] := by
                  rw [hW2]
                  refine ⟨_, _, rfl, fun j hj => ⟨_, _, rfl, ?_, ?_⟩⟩
                  · match j, hj with
                    | 0, _ => exact cell_made _ _ _ _ _
                    | 1, _ => exact cell_made _ _ _ _ _
                  · match j, hj with
                    | 0, _ => rw [cell_made]; simp
                    | 1, _ => rw [cell_made]; simp
                clear hW2
                have hbq2 := hbq.trans (hbW2.mono hbq.size)
                have HR2 := Lib.hid hr2
                refine (HCAT2.out W2 _ hr2 (HP.out.below hbq2)).mono ?_
                rintro e w3 ⟨rfl, hb3⟩
                have hbq3 := hbq2.trans (hb3.mono hbq2.size)
                have HR3 := Lib.hid (HR2.out.below hb3)
                clear hr2 hb3 hbW2 hbq2 hbq HR2
                go_wp2_with fail
                refine calls_gen ?_
                intro W4 hW4
                have hbW4 : Below w3.heap.size w3 W4 := by rw [hW4]; exact (Below.refl _ _).alloc (Nat.le_refl _) _
                have hn4 : StrsAt W4 (.slice (some ⟨w3.heap.size, 0, none⟩) 2 2) [othW, fewW] := by
                  rw [hW4]
                  refine ⟨_, _, rfl, Nat.le_refl _, by decide, (fun q => by cases q), fun j hj => ⟨_, rfl, ?_⟩⟩
                  rw [addr_add0, cell_made]
                  match j, hj with
                  | 0, _ => rfl
                  | 1, _ => rfl
                clear hW4
                have hbq4 := hbq3.trans (hbW4.mono hbq3.size)
                refine (HBOTH.out W4 _ _ (HR3.out.below hbW4) (HP.out.below hbq4) hn4).mono ?_
                rintro e w5 ⟨rfl, hb5⟩
                have hbq5 := hbq4.trans (hb5.mono hbq4.size)
                clear hb5 hbq4 hn4 hbW4 hbq3
                go_wp2
                go_ret
                exact ⟨rfl, hbq5⟩
              · clear hab
                have HCAT2 := Lib.hid (show ∀ W v, RulesAt W v [(fewW, a.data.toList), (zeroW, b.data.toList)] → PlurW W → Calls Tryz.prog 10 #[v, .string s] W fun e w' => e = .returned (.tuple #[strv fewW, .int .i64 0]) ∧ Below W.heap.size W w' from fun W v h1 h2 => by
                  have h := pcategory_any [(fewW, a.data.toList), (zeroW, b.data.toList)] v s W h1 (by show 2 ≤ 1000000; decide) HLZ.out (by omega) h2
                  rw [HTWO.out.1, HTWO.out.2, HXA.out, HYB.out] at h
                  exact h)
                have HBOTH := Lib.hid (show ∀ W v nv, RulesAt W v [(fewW, a.data.toList), (zeroW, b.data.toList)] → PlurW W → StrsAt W nv [othW, fewW] → Calls Tryz.prog 11 #[v, .string s, nv] W fun e w' => e = .returned (.tuple #[strv fewW, .int .i64 1, .int .i64 0]) ∧ Below W.heap.size W w' from fun W v nv h1 h2 h3 => by
                  have h := pboth_any [(fewW, a.data.toList), (zeroW, b.data.toList)] v s nv [othW, fewW] W h1 (by show 2 ≤ 1000000; decide) HLZ.out (by omega) h2 h3 (by show 2 ≤ 100000; decide) (by decide)
                  rw [HTWO.out.1, HTWO.out.2, HXA.out, HYB.out] at h
                  exact h)
                go_wp2_with fail
                refine calls_gen ?_
                intro W2 hW2
                have hbW2 : Below wq.heap.size wq W2 := by rw [hW2]; exact (Below.refl _ _).alloc (Nat.le_refl _) _
                have hr2 : RulesAt W2 (.slice (some ⟨wq.heap.size, 0, none⟩) 2 2) [(fewW, a.data.toList), (zeroW, b.data.toList)] := by
                  rw [hW2]
                  refine ⟨_, _, rfl, fun j hj => ⟨_, _, rfl, ?_, ?_⟩⟩
                  · match j, hj with
                    | 0, _ => exact cell_made _ _ _ _ _
                    | 1, _ => exact cell_made _ _ _ _ _
                  · match j, hj with
                    | 0, _ => rw [cell_made]; simp
                    | 1, _ => rw [cell_made]; simp
                clear hW2
                have hbq2 := hbq.trans (hbW2.mono hbq.size)
                have HR2 := Lib.hid hr2
                refine (HCAT2.out W2 _ hr2 (HP.out.below hbq2)).mono ?_
                rintro e w3 ⟨rfl, hb3⟩
                have hbq3 := hbq2.trans (hb3.mono hbq2.size)
                have HR3 := Lib.hid (HR2.out.below hb3)
                clear hr2 hb3 hbW2 hbq2 hbq HR2
                go_wp2_with fail
                refine calls_gen ?_
                intro W4 hW4
                have hbW4 : Below w3.heap.size w3 W4 := by rw [hW4]; exact (Below.refl _ _).alloc (Nat.le_refl _) _
                have hn4 : StrsAt W4 (.slice (some ⟨w3.heap.size, 0, none⟩) 2 2) [othW, fewW] := by
                  rw [hW4]
                  refine ⟨_, _, rfl, Nat.le_refl _, by decide, (fun q => by cases q), fun j hj => ⟨_, rfl, ?_⟩⟩
                  rw [addr_add0, cell_made]
                  match j, hj with
                  | 0, _ => rfl
                  | 1, _ => rfl
                clear hW4
                have hbq4 := hbq3.trans (hbW4.mono hbq3.size)
                refine (HBOTH.out W4 _ _ (HR3.out.below hbW4) (HP.out.below hbq4) hn4).mono ?_
                rintro e w5 ⟨rfl, hb5⟩
                have hbq5 := hbq4.trans (hb5.mono hbq4.size)
                clear hb5 hbq4 hn4 hbW4 hbq3
                go_wp2
                go_ret
                exact ⟨rfl, hbq5⟩
            · go_wp2_with fail
              refine (HOR1.out w4).mono ?_
              rintro e w' ⟨rfl, o1, rfl, ho1⟩
              have HO1 := Lib.hid ho1
              clear ho1
              go_wp2_with fail
              refine (HOR2.out w4).mono ?_
              rintro e w' ⟨rfl, o2, rfl, ho2⟩
              have HO2 := Lib.hid ho2
              clear ho2
              go_wp2_with fail
              refine (HIA.out _ (HP.out.below hb04)).mono ?_
              rintro e wq ⟨rfl, hb5⟩
              have hbq := hb04.trans (hb5.mono hb04.size)
              clear hb5 hb04 HIA
              have hab : o1 = false → o2 = false → xab = true := fun q1 q2 => by
                have h := (HAND2.out (HO1.out q1) (HO2.out q2)).2
                rw [HXAB.out, HXA.out, HYB.out] at h
                exact h
              obtain ⟨cnd, hcnd⟩ : ∃ c, ((!o1 && !o2) && (xab != true)) = c := ⟨_, rfl⟩
              have hcf : cnd = false := by
                rw [← hcnd]
                cases o1 <;> cases o2 <;> first | rfl | (rw [hab rfl rfl]; rfl)
              subst hcf
              cases o1 <;> cases o2
              · obtain rfl := hab rfl rfl
                have HCAT2 := Lib.hid (show ∀ W v, RulesAt W v [(fewW, a.data.toList), (zeroW, b.data.toList)] → PlurW W → Calls Tryz.prog 10 #[v, .string s] W fun e w' => e = .returned (.tuple #[strv fewW, .int .i64 0]) ∧ Below W.heap.size W w' from fun W v h1 h2 => by
                  have h := pcategory_any [(fewW, a.data.toList), (zeroW, b.data.toList)] v s W h1 (by show 2 ≤ 1000000; decide) HLZ.out (by omega) h2
                  rw [HTWO.out.1, HTWO.out.2, HXA.out, HYB.out] at h
                  exact h)
                have HBOTH := Lib.hid (show ∀ W v nv, RulesAt W v [(fewW, a.data.toList), (zeroW, b.data.toList)] → PlurW W → StrsAt W nv [othW, fewW] → Calls Tryz.prog 11 #[v, .string s, nv] W fun e w' => e = .returned (.tuple #[strv fewW, .int .i64 1, .int .i64 0]) ∧ Below W.heap.size W w' from fun W v nv h1 h2 h3 => by
                  have h := pboth_any [(fewW, a.data.toList), (zeroW, b.data.toList)] v s nv [othW, fewW] W h1 (by show 2 ≤ 1000000; decide) HLZ.out (by omega) h2 h3 (by show 2 ≤ 100000; decide) (by decide)
                  rw [HTWO.out.1, HTWO.out.2, HXA.out, HYB.out] at h
                  exact h)
                go_wp2_with fail
                refine calls_gen ?_
                intro W2 hW2
                have hbW2 : Below wq.heap.size wq W2 := by rw [hW2]; exact (Below.refl _ _).alloc (Nat.le_refl _) _
                have hr2 : RulesAt W2 (.slice (some ⟨wq.heap.size, 0, none⟩) 2 2) [(fewW, a.data.toList), (zeroW, b.data.toList)] := by
                  rw [hW2]
                  refine ⟨_, _, rfl, fun j hj => ⟨_, _, rfl, ?_, ?_⟩⟩
                  · match j, hj with
                    | 0, _ => exact cell_made _ _ _ _ _
                    | 1, _ => exact cell_made _ _ _ _ _
                  · match j, hj with
                    | 0, _ => rw [cell_made]; simp
                    | 1, _ => rw [cell_made]; simp
                clear hW2
                have hbq2 := hbq.trans (hbW2.mono hbq.size)
                have HR2 := Lib.hid hr2
                refine (HCAT2.out W2 _ hr2 (HP.out.below hbq2)).mono ?_
                rintro e w3 ⟨rfl, hb3⟩
                have hbq3 := hbq2.trans (hb3.mono hbq2.size)
                have HR3 := Lib.hid (HR2.out.below hb3)
                clear hr2 hb3 hbW2 hbq2 hbq HR2
                go_wp2_with fail
                refine calls_gen ?_
                intro W4 hW4
                have hbW4 : Below w3.heap.size w3 W4 := by rw [hW4]; exact (Below.refl _ _).alloc (Nat.le_refl _) _
                have hn4 : StrsAt W4 (.slice (some ⟨w3.heap.size, 0, none⟩) 2 2) [othW, fewW] := by
                  rw [hW4]
                  refine ⟨_, _, rfl, Nat.le_refl _, by decide, (fun q => by cases q), fun j hj => ⟨_, rfl, ?_⟩⟩
                  rw [addr_add0, cell_made]
                  match j, hj with
                  | 0, _ => rfl
                  | 1, _ => rfl
                clear hW4
                have hbq4 := hbq3.trans (hbW4.mono hbq3.size)
                refine (HBOTH.out W4 _ _ (HR3.out.below hbW4) (HP.out.below hbq4) hn4).mono ?_
                rintro e w5 ⟨rfl, hb5⟩
                have hbq5 := hbq4.trans (hb5.mono hbq4.size)
                clear hb5 hbq4 hn4 hbW4 hbq3
                go_wp2
                go_ret
                exact ⟨rfl, hbq5⟩
              · clear hab
                have HCAT2 := Lib.hid (show ∀ W v, RulesAt W v [(fewW, a.data.toList), (zeroW, b.data.toList)] → PlurW W → Calls Tryz.prog 10 #[v, .string s] W fun e w' => e = .returned (.tuple #[strv fewW, .int .i64 0]) ∧ Below W.heap.size W w' from fun W v h1 h2 => by
                  have h := pcategory_any [(fewW, a.data.toList), (zeroW, b.data.toList)] v s W h1 (by show 2 ≤ 1000000; decide) HLZ.out (by omega) h2
                  rw [HTWO.out.1, HTWO.out.2, HXA.out, HYB.out] at h
                  exact h)
                have HBOTH := Lib.hid (show ∀ W v nv, RulesAt W v [(fewW, a.data.toList), (zeroW, b.data.toList)] → PlurW W → StrsAt W nv [othW, fewW] → Calls Tryz.prog 11 #[v, .string s, nv] W fun e w' => e = .returned (.tuple #[strv fewW, .int .i64 1, .int .i64 0]) ∧ Below W.heap.size W w' from fun W v nv h1 h2 h3 => by
                  have h := pboth_any [(fewW, a.data.toList), (zeroW, b.data.toList)] v s nv [othW, fewW] W h1 (by show 2 ≤ 1000000; decide) HLZ.out (by omega) h2 h3 (by show 2 ≤ 100000; decide) (by decide)
                  rw [HTWO.out.1, HTWO.out.2, HXA.out, HYB.out] at h
                  exact h)
                go_wp2_with fail
                refine calls_gen ?_
                intro W2 hW2
                have hbW2 : Below wq.heap.size wq W2 := by rw [hW2]; exact (Below.refl _ _).alloc (Nat.le_refl _) _
                have hr2 : RulesAt W2 (.slice (some ⟨wq.heap.size, 0, none⟩) 2 2) [(fewW, a.data.toList), (zeroW, b.data.toList)] := by
                  rw [hW2]
                  refine ⟨_, _, rfl, fun j hj => ⟨_, _, rfl, ?_, ?_⟩⟩
                  · match j, hj with
                    | 0, _ => exact cell_made _ _ _ _ _
                    | 1, _ => exact cell_made _ _ _ _ _
                  · match j, hj with
                    | 0, _ => rw [cell_made]; simp
                    | 1, _ => rw [cell_made]; simp
                clear hW2
                have hbq2 := hbq.trans (hbW2.mono hbq.size)
                have HR2 := Lib.hid hr2
                refine (HCAT2.out W2 _ hr2 (HP.out.below hbq2)).mono ?_
                rintro e w3 ⟨rfl, hb3⟩
                have hbq3 := hbq2.trans (hb3.mono hbq2.size)
                have HR3 := Lib.hid (HR2.out.below hb3)
                clear hr2 hb3 hbW2 hbq2 hbq HR2
                go_wp2_with fail
                refine calls_gen ?_
                intro W4 hW4
                have hbW4 : Below w3.heap.size w3 W4 := by rw [hW4]; exact (Below.refl _ _).alloc (Nat.le_refl _) _
                have hn4 : StrsAt W4 (.slice (some ⟨w3.heap.size, 0, none⟩) 2 2) [othW, fewW] := by
                  rw [hW4]
                  refine ⟨_, _, rfl, Nat.le_refl _, by decide, (fun q => by cases q), fun j hj => ⟨_, rfl, ?_⟩⟩
                  rw [addr_add0, cell_made]
                  match j, hj with
                  | 0, _ => rfl
                  | 1, _ => rfl
                clear hW4
                have hbq4 := hbq3.trans (hbW4.mono hbq3.size)
                refine (HBOTH.out W4 _ _ (HR3.out.below hbW4) (HP.out.below hbq4) hn4).mono ?_
                rintro e w5 ⟨rfl, hb5⟩
                have hbq5 := hbq4.trans (hb5.mono hbq4.size)
                clear hb5 hbq4 hn4 hbW4 hbq3
                go_wp2
                go_ret
                exact ⟨rfl, hbq5⟩
              · clear hab
                have HCAT2 := Lib.hid (show ∀ W v, RulesAt W v [(fewW, a.data.toList), (zeroW, b.data.toList)] → PlurW W → Calls Tryz.prog 10 #[v, .string s] W fun e w' => e = .returned (.tuple #[strv fewW, .int .i64 0]) ∧ Below W.heap.size W w' from fun W v h1 h2 => by
                  have h := pcategory_any [(fewW, a.data.toList), (zeroW, b.data.toList)] v s W h1 (by show 2 ≤ 1000000; decide) HLZ.out (by omega) h2
                  rw [HTWO.out.1, HTWO.out.2, HXA.out, HYB.out] at h
                  exact h)
                have HBOTH := Lib.hid (show ∀ W v nv, RulesAt W v [(fewW, a.data.toList), (zeroW, b.data.toList)] → PlurW W → StrsAt W nv [othW, fewW] → Calls Tryz.prog 11 #[v, .string s, nv] W fun e w' => e = .returned (.tuple #[strv fewW, .int .i64 1, .int .i64 0]) ∧ Below W.heap.size W w' from fun W v nv h1 h2 h3 => by
                  have h := pboth_any [(fewW, a.data.toList), (zeroW, b.data.toList)] v s nv [othW, fewW] W h1 (by show 2 ≤ 1000000; decide) HLZ.out (by omega) h2 h3 (by show 2 ≤ 100000; decide) (by decide)
                  rw [HTWO.out.1, HTWO.out.2, HXA.out, HYB.out] at h
                  exact h)
                go_wp2_with fail
                refine calls_gen ?_
                intro W2 hW2
                have hbW2 : Below wq.heap.size wq W2 := by rw [hW2]; exact (Below.refl _ _).alloc (Nat.le_refl _) _
                have hr2 : RulesAt W2 (.slice (some ⟨wq.heap.size, 0, none⟩) 2 2) [(fewW, a.data.toList), (zeroW, b.data.toList)] := by
                  rw [hW2]
                  refine ⟨_, _, rfl, fun j hj => ⟨_, _, rfl, ?_, ?_⟩⟩
                  · match j, hj with
                    | 0, _ => exact cell_made _ _ _ _ _
                    | 1, _ => exact cell_made _ _ _ _ _
                  · match j, hj with
                    | 0, _ => rw [cell_made]; simp
                    | 1, _ => rw [cell_made]; simp
                clear hW2
                have hbq2 := hbq.trans (hbW2.mono hbq.size)
                have HR2 := Lib.hid hr2
                refine (HCAT2.out W2 _ hr2 (HP.out.below hbq2)).mono ?_
                rintro e w3 ⟨rfl, hb3⟩
                have hbq3 := hbq2.trans (hb3.mono hbq2.size)
                have HR3 := Lib.hid (HR2.out.below hb3)
                clear hr2 hb3 hbW2 hbq2 hbq HR2
                go_wp2_with fail
                refine calls_gen ?_
                intro W4 hW4
                have hbW4 : Below w3.heap.size w3 W4 := by rw [hW4]; exact (Below.refl _ _).alloc (Nat.le_refl _) _
                have hn4 : StrsAt W4 (.slice (some ⟨w3.heap.size, 0, none⟩) 2 2) [othW, fewW] := by
                  rw [hW4]
                  refine ⟨_, _, rfl, Nat.le_refl _, by decide, (fun q => by cases q), fun j hj => ⟨_, rfl, ?_⟩⟩
                  rw [addr_add0, cell_made]
                  match j, hj with
                  | 0, _ => rfl
                  | 1, _ => rfl
                clear hW4
                have hbq4 := hbq3.trans (hbW4.mono hbq3.size)
                refine (HBOTH.out W4 _ _ (HR3.out.below hbW4) (HP.out.below hbq4) hn4).mono ?_
                rintro e w5 ⟨rfl, hb5⟩
                have hbq5 := hbq4.trans (hb5.mono hbq4.size)
                clear hb5 hbq4 hn4 hbW4 hbq3
                go_wp2
                go_ret
                exact ⟨rfl, hbq5⟩
              · clear hab
                have HCAT2 := Lib.hid (show ∀ W v, RulesAt W v [(fewW, a.data.toList), (zeroW, b.data.toList)] → PlurW W → Calls Tryz.prog 10 #[v, .string s] W fun e w' => e = .returned (.tuple #[strv fewW, .int .i64 0]) ∧ Below W.heap.size W w' from fun W v h1 h2 => by
                  have h := pcategory_any [(fewW, a.data.toList), (zeroW, b.data.toList)] v s W h1 (by show 2 ≤ 1000000; decide) HLZ.out (by omega) h2
                  rw [HTWO.out.1, HTWO.out.2, HXA.out, HYB.out] at h
                  exact h)
                have HBOTH := Lib.hid (show ∀ W v nv, RulesAt W v [(fewW, a.data.toList), (zeroW, b.data.toList)] → PlurW W → StrsAt W nv [othW, fewW] → Calls Tryz.prog 11 #[v, .string s, nv] W fun e w' => e = .returned (.tuple #[strv fewW, .int .i64 1, .int .i64 0]) ∧ Below W.heap.size W w' from fun W v nv h1 h2 h3 => by
                  have h := pboth_any [(fewW, a.data.toList), (zeroW, b.data.toList)] v s nv [othW, fewW] W h1 (by show 2 ≤ 1000000; decide) HLZ.out (by omega) h2 h3 (by show 2 ≤ 100000; decide) (by decide)
                  rw [HTWO.out.1, HTWO.out.2, HXA.out, HYB.out] at h
                  exact h)
                go_wp2_with fail
                refine calls_gen ?_
                intro W2 hW2
                have hbW2 : Below wq.heap.size wq W2 := by rw [hW2]; exact (Below.refl _ _).alloc (Nat.le_refl _) _
                have hr2 : RulesAt W2 (.slice (some ⟨wq.heap.size, 0, none⟩) 2 2) [(fewW, a.data.toList), (zeroW, b.data.toList)] := by
                  rw [hW2]
                  refine ⟨_, _, rfl, fun j hj => ⟨_, _, rfl, ?_, ?_⟩⟩
                  · match j, hj with
                    | 0, _ => exact cell_made _ _ _ _ _
                    | 1, _ => exact cell_made _ _ _ _ _
                  · match j, hj with
                    | 0, _ => rw [cell_made]; simp
                    | 1, _ => rw [cell_made]; simp
                clear hW2
                have hbq2 := hbq.trans (hbW2.mono hbq.size)
                have HR2 := Lib.hid hr2
                refine (HCAT2.out W2 _ hr2 (HP.out.below hbq2)).mono ?_
                rintro e w3 ⟨rfl, hb3⟩
                have hbq3 := hbq2.trans (hb3.mono hbq2.size)
                have HR3 := Lib.hid (HR2.out.below hb3)
                clear hr2 hb3 hbW2 hbq2 hbq HR2
                go_wp2_with fail
                refine calls_gen ?_
                intro W4 hW4
                have hbW4 : Below w3.heap.size w3 W4 := by rw [hW4]; exact (Below.refl _ _).alloc (Nat.le_refl _) _
                have hn4 : StrsAt W4 (.slice (some ⟨w3.heap.size, 0, none⟩) 2 2) [othW, fewW] := by
                  rw [hW4]
                  refine ⟨_, _, rfl, Nat.le_refl _, by decide, (fun q => by cases q), fun j hj => ⟨_, rfl, ?_⟩⟩
                  rw [addr_add0, cell_made]
                  match j, hj with
                  | 0, _ => rfl
                  | 1, _ => rfl
                clear hW4
                have hbq4 := hbq3.trans (hbW4.mono hbq3.size)
                refine (HBOTH.out W4 _ _ (HR3.out.below hbW4) (HP.out.below hbq4) hn4).mono ?_
                rintro e w5 ⟨rfl, hb5⟩
                have hbq5 := hbq4.trans (hb5.mono hbq4.size)
                clear hb5 hbq4 hn4 hbW4 hbq3
                go_wp2
                go_ret
                exact ⟨rfl, hbq5⟩
          · go_wp2
            go_ret
            exact ⟨rfl, hb03⟩
end Go.Proofs.YtkhdbolnhcfgkaaGreatDoor
