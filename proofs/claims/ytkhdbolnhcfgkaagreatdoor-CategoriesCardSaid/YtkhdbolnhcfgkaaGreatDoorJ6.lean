import Derived.Test.YtkhdbolnhcfgkaaGreatDoorJ5
import Derived.Lib.Bytealg

/- The document's rules: a relation with a modulus, and it is one. -/
namespace Go.Proofs.YtkhdbolnhcfgkaaGreatDoor
open Go Go.RowKit
set_option maxRecDepth 10000

theorem fig_zero {x : Wd} (h : figB x = true) (hv : valL x = 0) : x = [48] := by
  have h2 := (Fig.of h).1.val
  rw [hv] at h2
  rw [← h2, decL_small (by decide)]
  rfl

set_option maxHeartbeats 1200000 in
theorem relation_mod (y : Addr) (N cap : Nat) (b : Bool) (wh fr : ByteArray) (x0 x1 A F : Wd) (ws : List Wd) (w : World) (hN : 3 ≤ N) (hN2 : N ≤ 1000000) (hcap : N ≤ cap) (hm : cap ≤ maxLen)
    (c0 : w.cell? y = some (strv x0)) (hfl : fr.size ≤ 1000) (c1 : w.cell? ⟨y.block, y.off + 1, none⟩ = some (strv x1)) (hst : StrsAt w (.slice (some y) N cap) ws)  (hop : operandL wh.data.toList fr.data.toList x0 = some (A, F)) (hmw : modW x1 = true) (x2 : Wd) (c2 : w.cell? ⟨y.block, y.off + 2, none⟩ = some (strv x2)) (hx2 : x2.length ≤ 1000000) (hfig : figB x2 = true) (hnz : x2 ≠ [48]) (h5 : 5 ≤ N) (hdA : A.all isDig = true) (hx : ∀ x ∈ ws, x.length ≤ 1000000) (hA : A.length ≤ 1000000) (hF : F.length ≤ 1000000) :
    Calls Tryz.prog 34 #[.slice (some y) N cap, .agg #[.bool b, .string wh, .string fr]] w fun e w' => RelPost (relTail (ws.drop 3) (decL (leftL A (valL x2))) F) w e w' := by
  have hlt : decide ((N : Int) < 3) = false := by simp; omega
  have HOP := Lib.hid hop
  have HST := Lib.hid hst
  have HMW := Lib.hid hmw
  have HFIG := Lib.hid hfig
  have HX := Lib.hid hx
  have HDA := Lib.hid hdA
  have hz' : (x2 == [48]) = false := by simpa using hnz
  have HNZ := Lib.hid hnz
  have sx2 : (⟨x2.toArray⟩ : ByteArray).size ≤ 1000000 := hx2
  clear hst hmw hx2 hfig hnz hx hdA
  have hBy := World.block_lt_of_cell? w y c0
  clear hop
  go_enter Tryz.func34, Tryz.ntmps34
  go_wp2_with fail
  refine wp_gen ?_
  intro W hW
  have hbW : Below w.heap.size w W := by rw [hW]; exact (Below.refl _ _).alloc (Nat.le_refl _) _
  have cx0 : W.cell? ⟨w.heap.size, 0, none⟩ = some (.bool b) := by rw [hW]; exact cell_made _ _ _ _ _
  have cx1 : W.cell? ⟨w.heap.size, 1, none⟩ = some (.string wh) := by rw [hW]; exact cell_made _ _ _ _ _
  have cx2 : W.cell? ⟨w.heap.size, 2, none⟩ = some (.string fr) := by rw [hW]; exact cell_made _ _ _ _ _
  have c0' := (hbW.cell hBy).trans c0
  have c1' := (hbW.cell (World.block_lt_of_cell? w _ c1)).trans c1
  have c2' := (hbW.cell (World.block_lt_of_cell? w _ c2)).trans c2
  clear hW c0 c1 c2
  obtain ⟨B, hB⟩ : ∃ B, B = w.heap.size := ⟨_, rfl⟩
  rw [← hB] at cx0 cx1 cx2 ⊢
  have HB := Lib.hid hB
  clear hB
  have p0 : (0 : Int) < (N : Int) := by omega
  have p0n : 0 < N := by omega
  have hS0 : W.drew.cell? ⟨B, 0, none⟩ = some (.bool b) ∧ W.drew.cell? ⟨B, 1, none⟩ = some (.string wh) ∧ W.drew.cell? ⟨B, 2, none⟩ = some (.string fr) ∧ W.drew.cell? y = some (strv x0) := ⟨cx0, cx1, cx2, c0'⟩
  refine wp_region_takes (fun W' : World => W'.cell? ⟨B, 0, none⟩ = some (.bool b) ∧ W'.cell? ⟨B, 1, none⟩ = some (.string wh) ∧ W'.cell? ⟨B, 2, none⟩ = some (.string fr) ∧ W'.cell? y = some (strv x0)) [0, 1, 2, 3] 8 (by intro _ _ d _ _ h; cases d <;> exact h) (by kernel_rfl) (by kernel_rfl) hS0 ?_
  (iterate 4 (first | (refine takes_yes (v := ?_) rfl (by rfl) ?_ ?_; rotate_left; (focus ((intro w' hS'; (try dsimp only at hS'); go_simp; try (with_reducible rfl)); done)); (try simp only [Act.put, List.setIfInBounds_toArray, List.set_cons_zero, List.set_cons_succ])) | (refine takes_no rfl (by rfl) ?_; (try simp only [Act.put, List.setIfInBounds_toArray, List.set_cons_zero, List.set_cons_succ]))))
  refine takes_nil ?_
  refine wpAnyH_only 4 (by kernel_rfl) rfl (fun K hK => ?_)
  go_simp
  refine (operand_any b wh fr ⟨x0.toArray⟩ _ (by omega)).mono ?_
  rintro e w1 ⟨he, hb1⟩
  have hlt1 : ∀ {p : Addr} {u : Value}, W.cell? p = some u → w1.cell? p = some u := fun {p u} h => (hb1.cell (World.block_lt_of_cell? W p h)).trans h
  have hS1 : w1.cell? ⟨B, 0, none⟩ = some (.bool b) ∧ w1.cell? ⟨B, 1, none⟩ = some (.string wh) ∧ w1.cell? ⟨B, 2, none⟩ = some (.string fr) ∧ w1.cell? y = some (strv x0) := ⟨hlt1 cx0, hlt1 cx1, hlt1 cx2, hlt1 c0'⟩
  have hbb1 : Below w.heap.size w w1 := hbW.drew.trans (hb1.mono hbW.size)
  rw [show operandL wh.data.toList fr.data.toList (⟨x0.toArray⟩ : ByteArray).data.toList = some (A, F) from HOP.out] at he
  obtain rfl := he
  have c1'' := hlt1 c1'
  have c2'' := hlt1 c2'
  go_simp
  refine hK.out _ _ hS1 (fun _ => ?_)
  clear hK K
  refine wpAnyH_more [5, 6, 7, 8, 9, 10, 11] 0 rfl (by intro _ _ d _ _ h; cases d <;> exact h) (by kernel_rfl) (by kernel_rfl) hS1 ?_
  (iterate 7 (first | (refine takes_yes (v := ?_) rfl (by rfl) ?_ ?_; rotate_left; (focus ((intro w' hS'; (try dsimp only at hS'); go_simp; try (with_reducible rfl)); done)); (try simp only [Act.put, List.setIfInBounds_toArray, List.set_cons_zero, List.set_cons_succ])) | (refine takes_no rfl (by rfl) ?_; (try simp only [Act.put, List.setIfInBounds_toArray, List.set_cons_zero, List.set_cons_succ]))))
  refine takes_nil ?_
  refine wpAnyH_done (by kernel_rfl) ?_ _
  have n1 : 1 ≤ N := by omega
  have n1i : (1 : Int) ≤ (N : Int) := by omega
  have k1 : ¬ cap = 1 := by omega
  have k1i : ¬ (cap : Int) = 1 := by omega
  have k2 : 1 < N := by omega
  have k3 : 1 < N - 1 := by omega
  have k3i : (1 : Int) < ((N - 1 : Nat) : Int) := by omega
  have hmm : x1 = [109, 111, 100] ∨ x1 = [37] := by
    have := HMW.out
    unfold modW at this
    simpa using this
  rcases hmm with rfl | rfl <;>
  · go_wp2_with fail
    refine (figure_any ⟨x2.toArray⟩ _ sx2).mono ?_
    rw [show figB (⟨x2.toArray⟩ : ByteArray).data.toList = true from HFIG.out]
    rintro e w2 ⟨rfl, hd⟩
    have hb2 : Below w1.heap.size w1 w2 := by obtain ⟨nn, rfl⟩ := hd; exact below_drewN (Below.refl _ _) nn
    have hbb2 := hbb1.trans (hb2.mono hbb1.size)
    have hfg := HFIG.out
    unfold figB numeralsL at hfg
    simp only [Bool.and_eq_true, decide_eq_true_eq] at hfg
    have hd2 : x2.all isDig = true := hfg.1.1
    have hl9 : x2.length ≤ 9 := hfg.2.1
    have hvlt := valL_lt x2 hd2
    have hpow : 10 ^ x2.length ≤ 10 ^ 9 := Nat.pow_le_pow_right (by decide) hl9
    have hv0 : 0 < valL x2 := by
      rcases Nat.eq_zero_or_pos (valL x2) with q | q
      · exact absurd (fig_zero HFIG.out q) HNZ.out
      · exact q
    have hvb : valL x2 ≤ 1000000000 := by omega
    have hlL := leftL_lt A (valL x2) hv0
    obtain ⟨DA, hDA⟩ : ∃ DA, decL (leftL A (valL x2)) = DA := ⟨_, rfl⟩
    have HDEC := Lib.hid hDA
    have HDAL := Lib.hid (show DA.length ≤ 1000000 by rw [← hDA]; exact Nat.le_trans (decL_short 9 _ (by omega)) (by decide))
    have h4' : decide (((N - 1 : Nat) : Int) < 4) = false := by simp; omega
    have m2 : 2 ≤ N - 1 := by omega
    have m2i : (2 : Int) ≤ ((N - 1 : Nat) : Int) := by omega
    have m3 : ¬ cap - 1 = 2 := by omega
    clear hd hfg hDA hpow
    go_wp2_with fail
    refine (small_any ⟨x2.toArray⟩ _ hl9 hd2).mono ?_
    rintro e w3 ⟨rfl, rfl⟩
    go_wp2_with fail
    refine (left_any ⟨A.toArray⟩ (valL x2) _ hA HDA.out hv0 hvb).mono ?_
    rintro e w3 ⟨rfl, rfl⟩
    go_wp2_with fail
    refine (decimal_any (leftL A (valL x2)) _ (by omega)).mono ?_
    rw [HDEC.out]
    rintro e w3 ⟨rfl, rfl⟩
    go_wp2_with fail
    have hlen : ws.length = N := by
      obtain ⟨a, c, hv, -⟩ := HST.out
      simp only [Value.slice.injEq] at hv
      exact hv.2.1.symm
    have hst1 : StrsAt w2 (.slice (some ⟨y.block, y.off + 1 + 2, none⟩) (N - 1 - 2) (cap - 1 - 2)) (ws.drop 3) := by
      have h2 := (HST.out.rest (k := 3) (by omega)).below hbb2
      simpa [Addr.add, Nat.sub_sub, Nat.add_assoc] using h2
    have HST1 := Lib.hid hst1
    have hdl : (ws.drop 3).length = N - 1 - 2 := by rw [List.length_drop, hlen]; omega
    obtain ⟨nt, wi, one, n, hman⟩ : ∃ nt wi one n, mannerL ((ws.drop 3).getD 0 []) ((ws.drop 3).getD 1 []) = (nt, wi, one, n) := ⟨_, _, _, _, rfl⟩
    have HMAN := Lib.hid hman
    have hn2 : n ≤ 2 := by have := manner_le ((ws.drop 3).getD 0 []) ((ws.drop 3).getD 1 []); rw [hman] at this; exact this
    have hmany := manner_any _ _ _ hst1 (by omega) (fun q => by rw [q] at hdl; simp at hdl; omega)
    rw [hman] at hmany
    refine hmany.mono ?_
    clear hmany hst1 hman
    rintro e w4 ⟨rfl, rfl⟩
    by_cases hn0 : n = 0
    · have hz : ((n : Int) == 0) = true := by simp; omega
      have HR := Lib.hid (show relTail (ws.drop 3) (decL (leftL A (valL x2))) F = none by rw [HDEC.out]; unfold relTail; rw [HMAN.out]; simp [hn0])
      clear hn0 hlen hdl
      go_wp2
      go_ret2
      exact ⟨by rw [HR.out]; exact ⟨false, rfl⟩, hbb2⟩
    · have hz : ((n : Int) == 0) = false := by simp; omega
      have hle : n ≤ N - 1 - 2 := by omega
      have HLEN := Lib.hid hlen
      have HDL := Lib.hid hdl
      clear hlen hdl
      obtain ⟨r, hr⟩ : ∃ r, listedL ((ws.drop 3).drop n) DA F wi one = r := ⟨_, rfl⟩
      have HRL := Lib.hid hr
      have HR := Lib.hid (show relTail (ws.drop 3) (decL (leftL A (valL x2))) F = r.map (fun b => b != nt) by rw [HDEC.out]; unfold relTail; rw [HMAN.out]; dsimp only; rw [if_neg hn0, hr])
      have HLA := Lib.hid (fun v w h => listed_any v ((ws.drop 3).drop n) ⟨DA.toArray⟩ ⟨F.toArray⟩ wi one w h (by rw [List.length_drop, HDL.out]; omega) (fun x hx => HX.out x (List.mem_of_mem_drop (List.mem_of_mem_drop hx))) HDAL.out hF)
      clear hr
      by_cases hcn : cap - 1 - 2 = n
      · have hN3 : n = N - 1 - 2 := by omega
        have hst2 : StrsAt w2 (.slice (some ⟨y.block, y.off + 1 + 2, none⟩) 0 0) ((ws.drop 3).drop n) := by
          rw [List.drop_of_length_le (by rw [HDL.out]; omega)]
          exact StrsAt.none_left
        obtain rfl : n = 2 := by omega
        obtain rfl : N = 5 := by omega
        obtain rfl : cap = 5 := by omega
        clear hn0 hcn
        go_wp2_with fail
        refine (HLA.out _ _ hst2).mono ?_
        rw [show listedL ((ws.drop 3).drop 2) (⟨DA.toArray⟩ : ByteArray).data.toList (⟨F.toArray⟩ : ByteArray).data.toList wi one = r from HRL.out]
        rintro e w3 ⟨rfl, hb3⟩
        have hbb3 := hbb2.trans (hb3.mono hbb2.size)
        cases r <;>
        · go_wp2
          go_ret2
          exact ⟨by rw [HR.out]; first | rfl | exact ⟨_, rfl⟩, hbb3⟩
      · have hst2 : StrsAt w2 (.slice (some ⟨y.block, y.off + 1 + 2 + n, none⟩) (N - 1 - 2 - n) (cap - 1 - 2 - n)) ((ws.drop 3).drop n) := by
          have h2 := HST1.out.rest hle
          have e : (⟨y.block, y.off + 1 + 2, none⟩ : Addr).add n = ⟨y.block, y.off + 1 + 2 + n, none⟩ := by simp [Addr.add, hn0]
          rwa [e] at h2
        have hcn2 : ¬ n = cap - 1 - 2 := fun q => hcn q.symm
        have hlei : (n : Int) ≤ ((N - 1 - 2 : Nat) : Int) := by omega
        have h0i : (0 : Int) ≤ (n : Int) := by omega
        have htn : ((n : Int)).toNat = n := by omega
        go_wp2_with fail
        refine (HLA.out _ _ hst2).mono ?_
        rw [show listedL ((ws.drop 3).drop n) (⟨DA.toArray⟩ : ByteArray).data.toList (⟨F.toArray⟩ : ByteArray).data.toList wi one = r from HRL.out]
        rintro e w3 ⟨rfl, hb3⟩
        have hbb3 := hbb2.trans (hb3.mono hbb2.size)
        cases r <;>
        · go_wp2
          go_ret2
          exact ⟨by rw [HR.out]; first | rfl | exact ⟨_, rfl⟩, hbb3⟩
end Go.Proofs.YtkhdbolnhcfgkaaGreatDoor

/- The document's rules: a relation, of whatever words. -/
namespace Go.Proofs.YtkhdbolnhcfgkaaGreatDoor
open Go Go.RowKit
set_option maxRecDepth 10000

theorem rel_bad {r : Option Bool} {w w' : World} {e : Ending} (hr : r = none) (h : e = .returned (.tuple #[.bool false, .bool false]) ∧ Below w.heap.size w w') : RelPost r w e w' := by
  subst hr
  exact ⟨⟨false, h.1⟩, h.2⟩

theorem drelation_any (v : Value) (ws : List Wd) (b : Bool) (wh fr : ByteArray) (w : World) (h : StrsAt w v ws) (hw : ws.length ≤ 1000000) (hx : ∀ x ∈ ws, x.length ≤ 1000000)
    (hwd : wh.data.toList.all isDig = true) (hfd : fr.data.toList.all isDig = true) (hwl : wh.size ≤ 1000) (hfl : fr.size ≤ 1000) :
    Calls Tryz.prog 34 #[v, .agg #[.bool b, .string wh, .string fr]] w (RelPost (relL ws (wh.data.toList, fr.data.toList)) w) := by
  by_cases h3 : ws.length < 3
  · exact (relation_short v ws b wh fr w h h3).mono fun e w' q => rel_bad (by unfold relL; rw [if_pos h3]) q
  obtain ⟨x0, x1, x2, t, hws⟩ : ∃ x0 x1 x2 t, ws = x0 :: x1 :: x2 :: t := by
    rcases ws with _ | ⟨x0, _ | ⟨x1, _ | ⟨x2, t⟩⟩⟩
    · simp at h3
    · simp at h3
    · simp at h3
    · exact ⟨x0, x1, x2, t, rfl⟩
  have hst := h
  obtain ⟨a, cap, rfl, hl, hm, h0, hc⟩ := h
  have hN : 3 ≤ ws.length := by omega
  obtain ⟨y, rfl, c0⟩ := hc 0 (by omega)
  obtain ⟨y1, e1, c1⟩ := hc 1 (by omega)
  obtain ⟨y2, e2, c2⟩ := hc 2 (by omega)
  obtain rfl := Option.some.inj e1
  obtain rfl := Option.some.inj e2
  have d0 : w.cell? y = some (strv x0) := by simpa [Addr.add, hws] using c0
  have d1 : w.cell? ⟨y.block, y.off + 1, none⟩ = some (strv x1) := by simpa [Addr.add, hws] using c1
  have d2 : w.cell? ⟨y.block, y.off + 2, none⟩ = some (strv x2) := by simpa [Addr.add, hws] using c2
  have hx2 : x2.length ≤ 1000000 := hx x2 (by rw [hws]; simp)
  have r0 : ws.headD [] = x0 := by rw [hws]; rfl
  have r1 : ws.getD 1 [] = x1 := by rw [hws]; rfl
  have r2 : ws.getD 2 [] = x2 := by rw [hws]; rfl
  have hfd2 := hfd
  have hrel : relL ws (wh.data.toList, fr.data.toList) = (match operandL wh.data.toList fr.data.toList x0 with
    | none => none
    | some (A, F) => if modW x1 then if figB x2 = true ∧ x2 ≠ [48] ∧ 5 ≤ ws.length then relTail (ws.drop 3) (decL (leftL A (valL x2))) F else none else relTail (ws.drop 1) A F) := by
    unfold relL
    rw [if_neg h3, r0, r1, r2]
    rfl
  rw [hrel]
  cases hop : operandL wh.data.toList fr.data.toList x0 with
  | none => exact (relation_long y ws.length cap b wh fr x0 x1 x2 w hN hw hl hm d0 hfl hop).mono fun e w' q => rel_bad rfl q
  | some AF =>
    obtain ⟨A, F⟩ := AF
    obtain ⟨o1, o2, o3⟩ := operandL_ok hwd hfd (by rw [size_toList]; exact hwl) (by rw [size_toList]; exact hfl) hop
    dsimp only
    cases hmw : modW x1
    · rw [if_neg (by simp)]
      have hne : ¬ x1 = [109, 111, 100] ∧ ¬ x1 = [37] := by
        unfold modW at hmw
        simpa using hmw
      exact relation_plain y ws.length cap b wh fr x0 x1 A F ws w hN hw hl hm d0 hfl d1 hst hx o2 o3 hop hne.1 hne.2
    · rw [if_pos rfl]
      by_cases hg : figB x2 = true ∧ x2 ≠ [48] ∧ 5 ≤ ws.length
      · rw [if_pos hg]
        exact relation_mod y ws.length cap b wh fr x0 x1 A F ws w hN hw hl hm d0 hfl d1 hst hop hmw x2 d2 hx2 hg.1 hg.2.1 hg.2.2 o1 hx o2 o3
      · rw [if_neg hg]
        exact (relation_modbad y ws.length cap b wh fr x0 x1 A F ws w hN hw hl hm d0 hfl d1 hst hop hmw x2 d2 hx2 hg).mono fun e w' q => rel_bad rfl q
end Go.Proofs.YtkhdbolnhcfgkaaGreatDoor

/- plural.operand's closures. (Printed by wip/mkQ5.py) -/
namespace Go.Proofs.YtkhdbolnhcfgkaaGreatDoor
open Go Go.RowKit
set_option maxRecDepth 10000

/-- the cell of a result that is a number -/
structure ResC (W : World) (q : Nat) : Prop where
  c0 : W.cell? ⟨q, 0, none⟩ = some (.bool false)
  c1 : W.cell? ⟨q, 1, none⟩ = some (.slice none 0 0)
  c2 : W.cell? ⟨q, 2, none⟩ = some (.int .i64 0)
  z0 : W.frozen? ⟨q, 0, none⟩ = false
  z1 : W.frozen? ⟨q, 1, none⟩ = false
  z2 : W.frozen? ⟨q, 2, none⟩ = false
  lt : q < W.heap.size

theorem ResC.below {W W' : World} {q : Nat} (h : ResC W q) (hb : Below W.heap.size W W') : ResC W' q :=
  ⟨(hb.cell h.lt).trans h.c0, (hb.cell h.lt).trans h.c1, (hb.cell h.lt).trans h.c2, (hb.frozen h.lt).trans h.z0, (hb.frozen h.lt).trans h.z1, (hb.frozen h.lt).trans h.z2, Nat.lt_of_lt_of_le h.lt hb.size⟩

theorem res_world (w : World) (o : Obj) : Below w.heap.size w ((w.alloc o).alloc (.cells #[.bool false, .slice none 0 0, .int .i64 0] 73)) ∧ ResC ((w.alloc o).alloc (.cells #[.bool false, .slice none 0 0, .int .i64 0] 73)) (w.heap.size + 1) := by
  have hs : (w.alloc o).heap.size = w.heap.size + 1 := by simp
  refine ⟨((Below.refl _ _).alloc (Nat.le_refl _) _).alloc (by omega) _, ?_⟩
  rw [← hs]
  exact ⟨cell_made _ _ _ _ _, cell_made _ _ _ _ _, cell_made _ _ _ _ _, by simp, by simp, by simp, by simp⟩

theorem NumV.set {w : World} {v : Value} {x : Dg} {q : Nat} {b : Bool} (h : NumV w v x) (hq : w.cell? ⟨q, 0, none⟩ = some (.bool b)) (j : Nat) (u : Value) : NumV (w.setCell ⟨q, j, none⟩ u) v x := by
  obtain ⟨b', g, cap, h1, h2, h3, h4, h5, h6⟩ := h
  have hne : g ≠ q := by
    rintro rfl
    have hp : 0 < (vals (x.1 ++ x.2)).length := by
      rw [vals_length, List.length_append]
      have := List.length_pos_iff.2 h6.ne
      omega
    obtain ⟨c, hc, hx⟩ := h5 0 hp
    cases hc
    rw [show (⟨g, 0, none⟩ : Addr).add 0 = ⟨g, 0, none⟩ from rfl, hq] at hx
    cases hx
  exact ⟨b', g, cap, h1, h2, h3, by simpa [World.setCell] using h4, h5.set (fun b hb => by cases hb; exact hne) u, h6⟩

theorem num_store {w W : World} {x : Dg} {q : Nat} {b : Bool} {s k : Value} (h : NumV W (.agg #[.bool b, s, k]) x) (hr : ResC W q) (hq : w.heap.size ≤ q) (hb : Below w.heap.size w W) :
    NumPost' x w (.returned (.agg #[.bool b, s, k])) (((W.setCell ⟨q, 0, none⟩ (.bool b)).setCell ⟨q, 1, none⟩ s).setCell ⟨q, 2, none⟩ k) := by
  have e0 : (W.setCell ⟨q, 0, none⟩ (.bool b)).cell? ⟨q, 0, none⟩ = some (.bool b) := by rw [World.cell?_setCell_same (h := hr.c0)]
  have e1 : ((W.setCell ⟨q, 0, none⟩ (.bool b)).setCell ⟨q, 1, none⟩ s).cell? ⟨q, 0, none⟩ = some (.bool b) := by rw [World.cell?_setCell_other (h := by simp)]; exact e0
  exact ⟨⟨_, rfl, ((h.set hr.c0 0 _).set e0 1 _).set e1 2 _⟩, ((hb.setCell hq _).setCell hq _).setCell hq _⟩

theorem NumV.form {w : World} {v : Value} {x : Dg} (h : NumV w v x) : ∃ b g cap n k, v = .agg #[.bool b, .slice (some ⟨g, 0, none⟩) n cap, .int .i64 k] := by
  obtain ⟨b, g, cap, h1, _⟩ := h
  exact ⟨b, g, cap, _, _, h1⟩

set_option maxHeartbeats 1000000 in
theorem op_v (v : Value) (x : Dg) (w : World) (h : NumV w v x) : Calls Tryz.prog 89 #[v] w (NumPost' (decL x.2.length, []) w) := by
  have hok := h.ok
  have hl1 := hok.len1
  have hl2 := hok.len2
  have HH := Lib.hid h
  have HO := Lib.hid hok
  obtain ⟨b, g, cap, rfl, _, _, _, _, _⟩ := h
  clear hok
  obtain ⟨hb0, hr0⟩ := res_world w (.cells #[.bool b, .slice (some ⟨g, 0, none⟩) (x.1.length + x.2.length) cap, .int .i64 x.2.length] 73)
  go_enter Tryz.func89, Tryz.ntmps89
  go_wp2_with fail
  generalize (w.alloc (.cells #[.bool b, .slice (some ⟨g, 0, none⟩) (x.1.length + x.2.length) cap, .int .i64 x.2.length] 73)).alloc (.cells #[.bool false, .slice none 0 0, .int .i64 0] 73) = W at hb0 hr0 ⊢
  refine (whole_num x.2.length _ (by omega)).mono ?_
  rintro e w2 ⟨⟨v2, rfl, hnv⟩, hb2⟩
  have hr := hr0.below hb2
  have hbb : Below w.heap.size w w2 := hb0.trans (hb2.mono (by have := hb0.size; omega))
  have c0 := hr.c0
  have c1 := hr.c1
  have c2 := hr.c2
  have z0 := hr.z0
  have z1 := hr.z1
  have z2 := hr.z2
  have HNV := Lib.hid hnv
  obtain ⟨b2, g2, cap2, n2, k2, rfl⟩ := hnv.form
  clear hnv
  go_wp2
  refine bodyPost_ret (v := .agg #[.bool b2, .slice (some ⟨g2, 0, none⟩) n2 cap2, .int .i64 k2]) ?_ rfl ?_
  · simp [results, Tryz.results89, go_sem, c0, c1, c2]
  exact num_store HNV.out hr (by omega) hbb

set_option maxHeartbeats 1000000 in
theorem op_i (v : Value) (x : Dg) (w : World) (h : NumV w v x) : Calls Tryz.prog 86 #[v] w (NumPost' (plainL x.1, []) w) := by
  have hok := h.ok
  have hl1 := hok.len1
  have hl2 := hok.len2
  have HH := Lib.hid h
  have HO := Lib.hid hok
  obtain ⟨b, g, cap, rfl, _, _, _, _, _⟩ := h
  clear hok
  obtain ⟨hb0, hr0⟩ := res_world w (.cells #[.bool b, .slice (some ⟨g, 0, none⟩) (x.1.length + x.2.length) cap, .int .i64 x.2.length] 73)
  go_enter Tryz.func86, Tryz.ntmps86
  go_wp2_with fail
  generalize (w.alloc (.cells #[.bool b, .slice (some ⟨g, 0, none⟩) (x.1.length + x.2.length) cap, .int .i64 x.2.length] 73)).alloc (.cells #[.bool false, .slice none 0 0, .int .i64 0] 73) = W at hb0 hr0 ⊢
  refine (int_num _ x _ (HH.out.below hb0)).mono ?_
  rintro e w1 ⟨⟨ad', cap', rfl, hc1, hc2, hB⟩, hb1⟩
  have hr1 := hr0.below hb1
  have hb01 : Below w.heap.size w w1 := hb0.trans (hb1.mono (by have := hb0.size; omega))
  have HB := Lib.hid hB
  clear hB
  go_wp2_with fail
  refine (trim_any x.1 ad' cap' _ HO.out.dig1 (by omega) hc1 hc2 HB.out).mono ?_
  rintro e w2 ⟨⟨v2, rfl, hnv⟩, hb2⟩
  have hr := hr1.below hb2
  have hbb : Below w.heap.size w w2 := hb01.trans (hb2.mono (by have := hb01.size; omega))
  have c0 := hr.c0
  have c1 := hr.c1
  have c2 := hr.c2
  have z0 := hr.z0
  have z1 := hr.z1
  have z2 := hr.z2
  have HNV := Lib.hid hnv
  obtain ⟨b2, g2, cap2, n2, k2, rfl⟩ := hnv.form
  clear hnv
  go_wp2
  refine bodyPost_ret (v := .agg #[.bool b2, .slice (some ⟨g2, 0, none⟩) n2 cap2, .int .i64 k2]) ?_ rfl ?_
  · simp [results, Tryz.results86, go_sem, c0, c1, c2]
  exact num_store HNV.out hr (by omega) hbb

set_option maxHeartbeats 1000000 in
theorem op_w (v : Value) (x : Dg) (w : World) (h : NumV w v x) : Calls Tryz.prog 91 #[v] w (NumPost' (decL (shortL x.2).length, []) w) := by
  have hok := h.ok
  have hl1 := hok.len1
  have hl2 := hok.len2
  have HH := Lib.hid h
  have HO := Lib.hid hok
  have hsl := short_len x.2
  obtain ⟨b, g, cap, rfl, _, _, _, _, _⟩ := h
  clear hok
  obtain ⟨hb0, hr0⟩ := res_world w (.cells #[.bool b, .slice (some ⟨g, 0, none⟩) (x.1.length + x.2.length) cap, .int .i64 x.2.length] 73)
  go_enter Tryz.func91, Tryz.ntmps91
  go_wp2_with fail
  generalize (w.alloc (.cells #[.bool b, .slice (some ⟨g, 0, none⟩) (x.1.length + x.2.length) cap, .int .i64 x.2.length] 73)).alloc (.cells #[.bool false, .slice none 0 0, .int .i64 0] 73) = W at hb0 hr0 ⊢
  refine (short_any _ x _ (HH.out.below hb0)).mono ?_
  rintro e w1 ⟨⟨ad', cap', rfl, hB, hc1, hc2⟩, hb1⟩
  have hr1 := hr0.below hb1
  have hb01 : Below w.heap.size w w1 := hb0.trans (hb1.mono (by have := hb0.size; omega))
  clear hB
  go_wp2_with fail
  refine (whole_num (shortL x.2).length _ (by omega)).mono ?_
  rintro e w2 ⟨⟨v2, rfl, hnv⟩, hb2⟩
  have hr := hr1.below hb2
  have hbb : Below w.heap.size w w2 := hb01.trans (hb2.mono (by have := hb01.size; omega))
  have c0 := hr.c0
  have c1 := hr.c1
  have c2 := hr.c2
  have z0 := hr.z0
  have z1 := hr.z1
  have z2 := hr.z2
  have HNV := Lib.hid hnv
  obtain ⟨b2, g2, cap2, n2, k2, rfl⟩ := hnv.form
  clear hnv
  go_wp2
  refine bodyPost_ret (v := .agg #[.bool b2, .slice (some ⟨g2, 0, none⟩) n2 cap2, .int .i64 k2]) ?_ rfl ?_
  · simp [results, Tryz.results91, go_sem, c0, c1, c2]
  exact num_store HNV.out hr (by omega) hbb

set_option maxHeartbeats 1000000 in
theorem op_f (v : Value) (x : Dg) (w : World) (h : NumV w v x) : Calls Tryz.prog 93 #[v] w (NumPost' (plainL x.2, []) w) := by
  have hok := h.ok
  have hl1 := hok.len1
  have hl2 := hok.len2
  have HH := Lib.hid h
  have HO := Lib.hid hok
  obtain ⟨b, g, cap, rfl, _, _, _, _, _⟩ := h
  clear hok
  obtain ⟨hb0, hr0⟩ := res_world w (.cells #[.bool b, .slice (some ⟨g, 0, none⟩) (x.1.length + x.2.length) cap, .int .i64 x.2.length] 73)
  go_enter Tryz.func93, Tryz.ntmps93
  go_wp2_with fail
  generalize (w.alloc (.cells #[.bool b, .slice (some ⟨g, 0, none⟩) (x.1.length + x.2.length) cap, .int .i64 x.2.length] 73)).alloc (.cells #[.bool false, .slice none 0 0, .int .i64 0] 73) = W at hb0 hr0 ⊢
  refine (frac_num _ x _ (HH.out.below hb0)).mono ?_
  rintro e w1 ⟨⟨ad', cap', rfl, hc1, hc2, hB⟩, hb1⟩
  have hr1 := hr0.below hb1
  have hb01 : Below w.heap.size w w1 := hb0.trans (hb1.mono (by have := hb0.size; omega))
  have HB := Lib.hid hB
  clear hB
  go_wp2_with fail
  refine (trim_any x.2 ad' cap' _ HO.out.dig2 (by omega) hc1 hc2 HB.out).mono ?_
  rintro e w2 ⟨⟨v2, rfl, hnv⟩, hb2⟩
  have hr := hr1.below hb2
  have hbb : Below w.heap.size w w2 := hb01.trans (hb2.mono (by have := hb01.size; omega))
  have c0 := hr.c0
  have c1 := hr.c1
  have c2 := hr.c2
  have z0 := hr.z0
  have z1 := hr.z1
  have z2 := hr.z2
  have HNV := Lib.hid hnv
  obtain ⟨b2, g2, cap2, n2, k2, rfl⟩ := hnv.form
  clear hnv
  go_wp2
  refine bodyPost_ret (v := .agg #[.bool b2, .slice (some ⟨g2, 0, none⟩) n2 cap2, .int .i64 k2]) ?_ rfl ?_
  · simp [results, Tryz.results93, go_sem, c0, c1, c2]
  exact num_store HNV.out hr (by omega) hbb

set_option maxHeartbeats 1000000 in
theorem op_t (v : Value) (x : Dg) (w : World) (h : NumV w v x) : Calls Tryz.prog 95 #[v] w (NumPost' (plainL (shortL x.2), []) w) := by
  have hok := h.ok
  have hl1 := hok.len1
  have hl2 := hok.len2
  have HH := Lib.hid h
  have HO := Lib.hid hok
  have hsl := short_len x.2
  obtain ⟨b, g, cap, rfl, _, _, _, _, _⟩ := h
  clear hok
  obtain ⟨hb0, hr0⟩ := res_world w (.cells #[.bool b, .slice (some ⟨g, 0, none⟩) (x.1.length + x.2.length) cap, .int .i64 x.2.length] 73)
  go_enter Tryz.func95, Tryz.ntmps95
  go_wp2_with fail
  generalize (w.alloc (.cells #[.bool b, .slice (some ⟨g, 0, none⟩) (x.1.length + x.2.length) cap, .int .i64 x.2.length] 73)).alloc (.cells #[.bool false, .slice none 0 0, .int .i64 0] 73) = W at hb0 hr0 ⊢
  refine (short_any _ x _ (HH.out.below hb0)).mono ?_
  rintro e w1 ⟨⟨ad', cap', rfl, hB, hc1, hc2⟩, hb1⟩
  have hr1 := hr0.below hb1
  have hb01 : Below w.heap.size w w1 := hb0.trans (hb1.mono (by have := hb0.size; omega))
  have HB := Lib.hid hB
  clear hB
  go_wp2_with fail
  refine (trim_any (shortL x.2) ad' cap' _ (short_dig HO.out.dig2) (by omega) hc1 hc2 HB.out).mono ?_
  rintro e w2 ⟨⟨v2, rfl, hnv⟩, hb2⟩
  have hr := hr1.below hb2
  have hbb : Below w.heap.size w w2 := hb01.trans (hb2.mono (by have := hb01.size; omega))
  have c0 := hr.c0
  have c1 := hr.c1
  have c2 := hr.c2
  have z0 := hr.z0
  have z1 := hr.z1
  have z2 := hr.z2
  have HNV := Lib.hid hnv
  obtain ⟨b2, g2, cap2, n2, k2, rfl⟩ := hnv.form
  clear hnv
  go_wp2
  refine bodyPost_ret (v := .agg #[.bool b2, .slice (some ⟨g2, 0, none⟩) n2 cap2, .int .i64 k2]) ?_ rfl ?_
  · simp [results, Tryz.results95, go_sem, c0, c1, c2]
  exact num_store HNV.out hr (by omega) hbb
end Go.Proofs.YtkhdbolnhcfgkaaGreatDoor

/- bytes.Compare of digits; decimal's Compare. -/
namespace Go.Proofs.YtkhdbolnhcfgkaaGreatDoor
open Go Go.RowKit
set_option maxRecDepth 10000

/-- digits of one length compared -/
def cmpB (a b : List UInt8) : Int := if Op.bytesLess a b = true then -1 else if a = b then 0 else 1

theorem byteOf_dig {c : UInt8} (h : isDig c = true) : (((c.toNat : Int) - 48).toNat.toUInt8).toNat = c.toNat - 48 := by
  have h1 := (isDig_iff c).1 h
  have h2 := c.toNat_lt
  simp only [Nat.toUInt8, UInt8.toNat_ofNat']
  omega

theorem compare_digs : ∀ (a b : List UInt8), a.length = b.length → a.all isDig = true → b.all isDig = true → Lib.compareBytes (Lib.bytesOf (vals a)) (Lib.bytesOf (vals b)) = cmpB a b
  | [], [], _, _, _ => rfl
  | c :: a, d :: b, hl, ha, hb => by
    simp only [List.all_cons, Bool.and_eq_true] at ha hb
    have ih := compare_digs a b (by simpa using hl) ha.2 hb.2
    have h1 := byteOf_dig ha.1
    have h2 := byteOf_dig hb.1
    have e1 := (isDig_iff c).1 ha.1
    have e2 := (isDig_iff d).1 hb.1
    have hx : Lib.bytesOf (vals (c :: a)) = ((c.toNat : Int) - 48).toNat.toUInt8 :: Lib.bytesOf (vals a) := rfl
    have hy : Lib.bytesOf (vals (d :: b)) = ((d.toNat : Int) - 48).toNat.toUInt8 :: Lib.bytesOf (vals b) := rfl
    rw [hx, hy, Lib.compareBytes, ih]
    unfold cmpB
    rw [Op.bytesLess]
    simp only [UInt8.lt_iff_toNat_lt, h1, h2]
    by_cases q1 : c.toNat < d.toNat
    · rw [if_pos (by omega), if_pos (by simp [q1])]
    · by_cases q2 : d.toNat < c.toNat
      · have hne : ¬ c = d := fun e => by rw [e] at q2; omega
        rw [if_neg (by omega), if_pos (by omega), if_neg (by simp [q1, hne]), if_neg (by simp [hne])]
      · have heq : c = d := UInt8.toNat_inj.1 (by omega)
        subst heq
        rw [if_neg (by omega), if_neg (by omega)]
        simp

theorem load_digs (l : List UInt8) (n c : Nat) (a : Addr) (w : World) (hn : n = l.length) (h : BytesAt w (some a) (vals l)) : (Extern.Bytes.bytesOf (.slice (some a) n c)).run Tryz.prog w = .ok ⟨(Lib.bytesOf (vals l)).toArray⟩ w := by
  subst hn
  have := Lib.run_loadBytesX (P := Tryz.prog) w (vals l) a .empty (fun j x hx => by
    have hj := (List.getElem?_eq_some_iff.1 hx).1
    obtain ⟨b, hb, hc⟩ := h j hj
    cases hb
    rw [hc]
    have := (List.getElem?_eq_some_iff.1 hx).2
    rw [this])
  rw [vals_length] at this
  show (Extern.Bytes.loadBytes a l.length .empty).run Tryz.prog w = _
  rw [this]
  congr 2
  simp

theorem compare_law (l1 l2 : List UInt8) (n1 c1 n2 c2 : Nat) (a b : Addr) (w : World) (e1 : n1 = l1.length) (e2 : n2 = l2.length) (h1 : BytesAt w (some a) (vals l1)) (h2 : BytesAt w (some b) (vals l2)) (hl : l1.length = l2.length) (d1 : l1.all isDig = true) (d2 : l2.all isDig = true) :
    (callFunc 130 #[.slice (some a) n1 c1, .slice (some b) n2 c2]).run Tryz.prog w = .ok (.value (.int .i64 (cmpB l1 l2))) w := by
  rw [run_callFunc_extern Tryz.func130 (by kernel_rfl) (by kernel_rfl) (by kernel_rfl) (e := Extern.BytealgCompare.compare) (by kernel_rfl)]
  have : (Extern.BytealgCompare.compare #[.slice (some a) n1 c1, .slice (some b) n2 c2]).run Tryz.prog w = .ok (.int .i64 (cmpB l1 l2)) w := by
    change (Sem.run Tryz.prog (do pure (goInt (Extern.BytealgCompare.cmp (← Extern.Bytes.bytesOf (.slice (some a) n1 c1)) (← Extern.Bytes.bytesOf (.slice (some b) n2 c2))))) w) = _
    simp only [Sem.run_bind, load_digs l1 n1 c1 a w e1 h1, Result.andThen, load_digs l2 n2 c2 b w e2 h2, Lib.cmp_eq, compare_digs l1 l2 hl d1 d2]
    rfl
  rw [this]
  rfl

set_option maxHeartbeats 1000000 in
theorem bytesCompare_any (l1 l2 : List UInt8) (n1 c1 n2 c2 : Nat) (a b : Addr) (w : World) (e1 : n1 = l1.length) (e2 : n2 = l2.length) (h1 : BytesAt w (some a) (vals l1)) (h2 : BytesAt w (some b) (vals l2)) (hl : l1.length = l2.length) (d1 : l1.all isDig = true) (d2 : l2.all isDig = true) :
    Calls Tryz.prog 122 #[.slice (some a) n1 c1, .slice (some b) n2 c2] w fun e w' => e = .returned (.int .i64 (cmpB l1 l2)) ∧ w = w' := by
  have hlaw := compare_law l1 l2 n1 c1 n2 c2 a b w e1 e2 h1 h2 hl d1 d2
  clear e1 e2 hl d1 d2 h1 h2
  go_enter Tryz.func122, Tryz.ntmps122
  go_wp2
  go_ret
  exact ⟨rfl, rfl⟩

theorem cmpB_cmpL {a b : List UInt8} (h : a.length = b.length) : cmpB a b = cmpL a b := by
  unfold cmpB cmpL
  rw [h]
  simp

theorem field_digits (b : Bool) (s k : Value) (w : World) : (Instr.field 73 (.agg #[.bool b, s, k]) 1).run Tryz.prog w = .ok s w := by
  kernel_rfl

set_option maxHeartbeats 1000000 in
theorem compare_any (v : Value) (x : Dg) (m : Nat) (w : World) (h : NumV w v x) (hm : m ≤ 1000000000) :
    Calls Tryz.prog 109 #[v, .int .i64 m] w fun e w' => e = .returned (.int .i64 (cmpT x m)) ∧ Below w.heap.size w w' := by
  have hok := h.ok
  have hl1 := hok.len1
  have HH := Lib.hid h
  have HO := Lib.hid hok
  have hbr := fun W (hW : NumV W v x) => broken_any v x W hW
  have HBR := Lib.hid hbr
  have hW := decL_short 9 m (by omega)
  obtain ⟨b, g, cap, rfl, _, _, _, _, _⟩ := h
  have hfd := field_digits
  clear hok hbr
  go_enter Tryz.func109, Tryz.ntmps109
  go_wp2_with fail
  refine (int_num _ x _ (HH.out.below ((Below.refl _ _).alloc (Nat.le_refl _) _))).mono ?_
  rintro e w1 ⟨⟨ad', cap', rfl, hc1, hc2, hB⟩, hb1⟩
  have hbox : (w.alloc (.cells #[.bool b, .slice (some ⟨g, 0, none⟩) (x.1.length + x.2.length) cap, .int .i64 x.2.length] 73)).heap.size = w.heap.size + 1 := by simp
  have k0 : w1.cell? ⟨w.heap.size, 0, none⟩ = some (.bool b) := (hb1.cell (by simp)).trans (cell_made _ _ _ _ _)
  have k1 : w1.cell? ⟨w.heap.size, 1, none⟩ = some (.slice (some ⟨g, 0, none⟩) (x.1.length + x.2.length) cap) := (hb1.cell (by simp)).trans (cell_made _ _ _ _ _)
  have k2 : w1.cell? ⟨w.heap.size, 2, none⟩ = some (.int .i64 x.2.length) := (hb1.cell (by simp)).trans (cell_made _ _ _ _ _)
  have hbb : Below w.heap.size w w1 := ((Below.refl _ _).alloc (Nat.le_refl _) _).trans (hb1.mono (by simp))
  have hs1 : w.heap.size < w1.heap.size := by have := hb1.size; rw [hbox] at this; omega
  clear hb1 hbox
  obtain ⟨p, rfl, _⟩ := hB 0 (by rw [vals_length]; exact List.length_pos_iff.2 HO.out.ne)
  have HB := Lib.hid hB
  clear hB
  go_wp2_with fail
  refine (whole_any m _ hm).mono ?_
  rintro e w2 ⟨⟨g2, cap2, rfl, ho⟩, hb2⟩
  have j0 := (hb2.cell (p := ⟨w.heap.size, 0, none⟩) hs1).trans k0
  have j1 := (hb2.cell (p := ⟨w.heap.size, 1, none⟩) hs1).trans k1
  have j2 := (hb2.cell (p := ⟨w.heap.size, 2, none⟩) hs1).trans k2
  have hbb2 : Below w.heap.size w w2 := hbb.trans (hb2.mono (by omega))
  have HB2 := Lib.hid (HB.out.below hb2)
  have HB3 := Lib.hid (bytesAt_own ho rfl)
  have HNV := Lib.hid (HH.out.below hbb2)
  clear ho hb2 k0 k1 k2 hbb
  have hdl := decL_ne m
  by_cases h1 : x.1.length < (decL m).length
  · have hc : cmpL x.1 (decL m) = -1 := by
      unfold cmpL
      rw [if_pos (.inl h1)]
    have hf : cmpT x m = -1 := by
      unfold cmpT
      rw [hc]
      rfl
    have HF := Lib.hid hf
    have g1 : ((x.1.length : Int) - ((decL m).length : Int) == 0) = false := by simp; omega
    have g2' : decide ((x.1.length : Int) - ((decL m).length : Int) < 0) = true := by simp; omega
    clear hf hc
    go_wp2
    all_goals (first | (exfalso; omega) | skip)
    go_ret
    exact ⟨by rw [HF.out]; rfl, hbb2⟩
  · by_cases h2 : (decL m).length < x.1.length
    · have hc : cmpL x.1 (decL m) = 1 := by
        unfold cmpL
        rw [if_neg (fun q => q.elim h1 (fun q => by omega)), if_neg (fun e => by rw [e] at h2; omega)]
      have hf : cmpT x m = 1 := by
        unfold cmpT
        rw [hc]
        simp
      have HF := Lib.hid hf
      have g1 : ((x.1.length : Int) - ((decL m).length : Int) == 0) = false := by simp; omega
      have g2' : decide ((x.1.length : Int) - ((decL m).length : Int) < 0) = false := by simp; omega
      have g3 : decide (0 < (x.1.length : Int) - ((decL m).length : Int)) = true := by simp; omega
      clear hf hc
      go_wp2
      all_goals (first | (exfalso; omega) | skip)
      go_ret
      exact ⟨by rw [HF.out]; rfl, hbb2⟩
    · have he : x.1.length = (decL m).length := by omega
      have g1 : ((x.1.length : Int) - ((decL m).length : Int) == 0) = true := by simp; omega
      have hcl := cmpB_cmpL he
      have hbc := bytesCompare_any x.1 (decL m) x.1.length cap' (decL m).length cap2 p ⟨g2, 0, none⟩ w2 rfl rfl HB2.out HB3.out he HO.out.dig1 (decL_dig m)
      have HBC := Lib.hid hbc
      obtain ⟨r, hr⟩ : ∃ r, cmpB x.1 (decL m) = r := ⟨_, rfl⟩
      have hcm : cmpL x.1 (decL m) = r := by rw [← hcl, hr]
      have hcs := cmp_cases x.1 (decL m)
      rw [hcm] at hcs
      have hfin : cmpT x m = if r < 0 then -1 else if 0 < r ∨ brk x.2 = true then 1 else 0 := by unfold cmpT; rw [hcm]
      have HFIN := Lib.hid hfin
      have HR := Lib.hid hr
      clear hbc hr hcm hcl hfin he h1 h2
      go_wp2_with fail
      refine HBC.out.mono ?_
      rw [HR.out]
      rintro e w3 ⟨rfl, rfl⟩
      rcases hcs with rfl | rfl | rfl
      · have hf := HFIN.out
        rw [if_pos (by decide)] at hf
        have HF := Lib.hid hf
        clear hf
        go_wp2
        go_ret
        exact ⟨by rw [HF.out]; rfl, hbb2⟩
      · have hf := HFIN.out
        rw [if_neg (by decide)] at hf
        have hbk := HBR.out w2 HNV.out
        obtain ⟨q, hq⟩ : ∃ q, brk x.2 = q := ⟨_, rfl⟩
        rw [hq] at hf hbk
        have HF := Lib.hid hf
        have HBK := Lib.hid hbk
        clear hf hbk hq
        go_wp2_with fail
        refine HBK.out.mono ?_
        rintro e w4 ⟨rfl, hb4⟩
        have hbb4 : Below w.heap.size w w4 := hbb2.trans (hb4.mono hbb2.size)
        cases q
        · go_wp2
          go_ret
          exact ⟨by rw [HF.out]; rfl, hbb4⟩
        · go_wp2
          go_ret
          exact ⟨by rw [HF.out]; rfl, hbb4⟩
      · have hf := HFIN.out
        rw [if_neg (by decide), if_pos (.inl (by decide))] at hf
        have HF := Lib.hid hf
        clear hf
        go_wp2
        go_ret
        exact ⟨by rw [HF.out]; rfl, hbb2⟩
end Go.Proofs.YtkhdbolnhcfgkaaGreatDoor

/- decimal's Mod. -/
namespace Go.Proofs.YtkhdbolnhcfgkaaGreatDoor
open Go Go.RowKit
set_option maxRecDepth 10000

theorem numBelow_box (w : World) (o o2 : Obj) : Below w.heap.size w ((w.alloc o).alloc o2) := ((Below.refl _ _).alloc (Nat.le_refl _) _).alloc (by simp) _

theorem ResC.grown {W W' : World} {q : Nat} {row : Option Nat} (h : ResC W q) (hg : W.grownBy W' row) (hne : some q ≠ row) : ResC W' q :=
  ⟨hg.cell h.c0 hne, hg.cell h.c1 hne, hg.cell h.c2 hne, (World.frozen?_of_block (hg.block q h.lt hne)).trans h.z0, (World.frozen?_of_block (hg.block q h.lt hne)).trans h.z1, (World.frozen?_of_block (hg.block q h.lt hne)).trans h.z2, Nat.lt_of_lt_of_le h.lt hg.size⟩
theorem ResC.set {W : World} {q : Nat} (h : ResC W q) {a : Addr} (ha : a.block ≠ q) (u : Value) : ResC (W.setCell a u) q :=
  have hb : (W.setCell a u).heap[q]? = W.heap[q]? := Below.heap_setCell _ _ _ _ (fun e => ha e.symm)
  ⟨(World.cell?_of_block hb).trans h.c0, (World.cell?_of_block hb).trans h.c1, (World.cell?_of_block hb).trans h.c2, (World.frozen?_of_block hb).trans h.z0, (World.frozen?_of_block hb).trans h.z1, (World.frozen?_of_block hb).trans h.z2, by simpa [World.setCell] using h.lt⟩

theorem digs_cells {w : World} {p : Addr} {l : List UInt8} (h : BytesAt w (some p) (vals l)) : ∀ j u, (digs l)[j]? = some u → w.cell? (p.add j) = some u := by
  intro j u hu
  have hj : j < (vals l).length := by
    have := (List.getElem?_eq_some_iff.1 hu).1
    simpa [digs, vals] using this
  obtain ⟨b, hb, hc⟩ := h j hj
  cases hb
  rw [hc]
  rw [digs_vals0, List.getElem?_map, List.getElem?_eq_getElem hj] at hu
  simpa using hu
theorem digs_one (l : List UInt8) : ∀ u ∈ digs l, u.oneCell' = true := by
  intro u hu
  simp only [digs, List.mem_map] at hu
  obtain ⟨c, _, rfl⟩ := hu
  rfl
theorem own_not_bool {w : World} {base g n cap : Nat} {e : TypeId} {a : List UInt8} {xs : List Value} {b : Bool} (h : w.ownsRow base e 1 (.slice (some ⟨g, 0, none⟩) n cap) n (digs a ++ xs)) (ha : a ≠ []) (hc : w.cell? ⟨g, 0, none⟩ = some (.bool b)) : False := by
  cases a with
  | nil => exact ha rfl
  | cons c t =>
    have hn : 0 < n := by have := h.1; simp [digs] at this; omega
    have := h.cellAt 0 (by omega)
    rw [hc] at this
    simp [digs] at this

set_option maxHeartbeats 2000000 in
theorem mod_any (v : Value) (x : Dg) (m : Nat) (w : World) (h : NumV w v x) (hm : m ≤ 1000000000) (hm0 : 0 < m) :
    Calls Tryz.prog 78 #[v, .int .i64 m] w (NumPost' (decL (leftL x.1 m), x.2) w) := by
  have hok := h.ok
  have hl1 := hok.len1
  have hl2 := hok.len2
  have HH := Lib.hid h
  have HO := Lib.hid hok
  obtain ⟨b, g, cap, rfl, _, _, _, _, _⟩ := h
  obtain ⟨hb0, hr0⟩ := res_world w (.cells #[.bool b, .slice (some ⟨g, 0, none⟩) (x.1.length + x.2.length) cap, .int .i64 x.2.length] 73)
  have hbx : ((w.alloc (.cells #[.bool b, .slice (some ⟨g, 0, none⟩) (x.1.length + x.2.length) cap, .int .i64 x.2.length] 73)).alloc (.cells #[.bool false, .slice none 0 0, .int .i64 0] 73)).cell? ⟨w.heap.size, 0, none⟩ = some (.bool b) ∧
      ((w.alloc (.cells #[.bool b, .slice (some ⟨g, 0, none⟩) (x.1.length + x.2.length) cap, .int .i64 x.2.length] 73)).alloc (.cells #[.bool false, .slice none 0 0, .int .i64 0] 73)).cell? ⟨w.heap.size, 1, none⟩ = some (.slice (some ⟨g, 0, none⟩) (x.1.length + x.2.length) cap) ∧
      ((w.alloc (.cells #[.bool b, .slice (some ⟨g, 0, none⟩) (x.1.length + x.2.length) cap, .int .i64 x.2.length] 73)).alloc (.cells #[.bool false, .slice none 0 0, .int .i64 0] 73)).cell? ⟨w.heap.size, 2, none⟩ = some (.int .i64 x.2.length) := ⟨by go_simp, by go_simp, by go_simp⟩
  clear hok
  go_enter Tryz.func78, Tryz.ntmps78
  go_wp2_with fail
  generalize (w.alloc (.cells #[.bool b, .slice (some ⟨g, 0, none⟩) (x.1.length + x.2.length) cap, .int .i64 x.2.length] 73)).alloc (.cells #[.bool false, .slice none 0 0, .int .i64 0] 73) = W at hb0 hr0 hbx ⊢
  obtain ⟨k0, k1, k2⟩ := hbx
  have hWs : w.heap.size < W.heap.size := World.block_lt_of_cell? W _ k0
  refine (int_num _ x _ (HH.out.below hb0)).mono ?_
  rintro e w1 ⟨⟨ad', cap', rfl, hc1, hc2, hB⟩, hb1⟩
  have hr1 := hr0.below hb1
  have hb01 : Below w.heap.size w w1 := hb0.trans (hb1.mono hb0.size)
  have j0 := (hb1.cell (p := ⟨w.heap.size, 0, none⟩) hWs).trans k0
  have j1 := (hb1.cell (p := ⟨w.heap.size, 1, none⟩) hWs).trans k1
  have j2 := (hb1.cell (p := ⟨w.heap.size, 2, none⟩) hWs).trans k2
  have HB := Lib.hid hB
  clear hb0 hr0 hb1 k0 k1 k2 hB hWs
  have hlt := fun l => leftL_lt l m hm0
  have HLT := Lib.hid hlt
  clear hlt
  go_wp2_with fail
  go_loop [5, 12] (fun r i => ∃ k : Nat, k ≤ x.1.length ∧ i = .int .i64 k ∧ r = .int .i64 (leftL (x.1.take k) m)) (fun _ i => x.1.length - (intOf i).toNat)
  case atStart => exact ⟨0, Nat.zero_le _, rfl, rfl⟩
  case round =>
    obtain ⟨k, hk, rfl, rfl⟩ := hrel
    by_cases hlt : k < x.1.length
    · obtain ⟨p, rfl, hc⟩ := HB.out k (by rw [vals_length]; exact hlt)
      have hvm : (vals x.1)[k]'(by rw [vals_length]; exact hlt) = (x.1[k].toNat : Int) - 48 := by simp [vals]
      rw [hvm] at hc
      have hd := (isDig_iff _).1 (List.all_eq_true.1 HO.out.dig1 _ (List.getElem_mem hlt))
      have hL := HLT.out (x.1.take k)
      have hsn : leftL (x.1.take (k + 1)) m = (10 * leftL (x.1.take k) m + (x.1[k].toNat - 48)) % m := by rw [List.take_succ_eq_append_getElem hlt, leftL_snoc]
      have HSN := Lib.hid hsn
      obtain ⟨r, hr⟩ : ∃ r, r = leftL (x.1.take k) m := ⟨_, rfl⟩
      obtain ⟨d, hdd⟩ : ∃ d : Nat, (d : Int) = (x.1[k].toNat : Int) - 48 := ⟨x.1[k].toNat - 48, by omega⟩
      have hd2 : x.1[k].toNat - 48 = d := by omega
      rw [← hdd] at hc
      rw [← hr, hd2] at HSN
      rw [← hr] at hL ⊢
      have hd9 : d ≤ 9 := by omega
      have hmz : ¬ ((m : Int) = 0) := by omega
      clear hsn hvm hd hr hdd hd2
      go_wp2
      exact ⟨⟨k + 1, by omega, by go_num, by rw [HSN.out]; go_num⟩, by simp [intOf]; omega⟩
    · obtain rfl : k = x.1.length := by omega
      have hlr := HLT.out (x.1.take x.1.length)
      rw [List.take_length] at hlr ⊢
      clear HLT HB
      obtain ⟨r, hr⟩ : ∃ r, r = leftL x.1 m := ⟨_, rfl⟩
      have HR := Lib.hid hr
      rw [← hr] at hlr ⊢
      clear hr
      go_wp2_with fail
      refine (whole_any r _ (by omega)).mono ?_
      rintro e w2 ⟨⟨g2, cap2, rfl, ho⟩, hb2⟩
      have hr2 := hr1.below hb2
      have hb02 : Below w.heap.size w w2 := hb01.trans (hb2.mono hb01.size)
      have hs1 : w.heap.size < w1.heap.size := World.block_lt_of_cell? w1 _ j0
      have i0 := (hb2.cell (p := ⟨w.heap.size, 0, none⟩) hs1).trans j0
      have i1 := (hb2.cell (p := ⟨w.heap.size, 1, none⟩) hs1).trans j1
      have i2 := (hb2.cell (p := ⟨w.heap.size, 2, none⟩) hs1).trans j2
      have hg2 := (ho.lt g2 rfl)
      have hr1lt := Lib.hid hr1.lt
      clear hb2 j0 j1 j2 hr1 hb01
      go_wp2_with (fail)
      have F : ∃ W3, W3 = w2.alloc (.cells #[.bool false, .slice (some ⟨g2, 0, none⟩) (decL r).length cap2, .int .i64 0] 73) ∧ Below w2.heap.size w2 W3 ∧ W3.heap.size = w2.heap.size + 1 ∧
          W3.cell? ⟨w2.heap.size, 0, none⟩ = some (.bool false) ∧ W3.cell? ⟨w2.heap.size, 1, none⟩ = some (.slice (some ⟨g2, 0, none⟩) (decL r).length cap2) ∧ W3.cell? ⟨w2.heap.size, 2, none⟩ = some (.int .i64 0) ∧
          W3.frozen? ⟨w2.heap.size, 0, none⟩ = false ∧ W3.frozen? ⟨w2.heap.size, 1, none⟩ = false ∧ W3.frozen? ⟨w2.heap.size, 2, none⟩ = false ∧
          W3.ownsRow w1.heap.size 5 1 (.slice (some ⟨g2, 0, none⟩) (decL r).length cap2) (decL r).length (digs (decL r)) :=
        ⟨_, rfl, (Below.refl _ _).alloc (Nat.le_refl _) _, by simp, by go_simp, by go_simp, by go_simp, by go_simp, by go_simp, by go_simp, ho.alloc _⟩
      obtain ⟨W3, hW3, hb3, hs3, q0, q1, q2, y0, y1, y2, ho3⟩ := F
      rw [← hW3]
      have hr3 := hr2.below hb3
      have hs2 : w.heap.size < w2.heap.size := World.block_lt_of_cell? w2 _ i0
      have o0 := (hb3.cell (p := ⟨w.heap.size, 0, none⟩) hs2).trans i0
      have o1 := (hb3.cell (p := ⟨w.heap.size, 1, none⟩) hs2).trans i1
      have o2 := (hb3.cell (p := ⟨w.heap.size, 2, none⟩) hs2).trans i2
      have hb03 : Below w.heap.size w W3 := hb02.trans (hb3.mono hb02.size)
      have hs12 : w1.heap.size ≤ w2.heap.size := by omega
      clear hW3 hb3 hr2 i0 i1 i2 ho
      obtain ⟨B, hBq⟩ : ∃ B, B = w.heap.size := ⟨_, rfl⟩
      obtain ⟨q, hq⟩ : ∃ q, q = w2.heap.size := ⟨_, rfl⟩
      rw [← hBq] at o0 o1 o2 hr3 hs2 ⊢
      rw [← hq] at q0 q1 q2 y0 y1 y2 hs2 hs3 ⊢
      have HBq := Lib.hid hBq
      have HQ := Lib.hid hq
      clear hBq hq
      have hS0 : W3.drew.cell? ⟨B, 0, none⟩ = some (.bool b) ∧ W3.drew.cell? ⟨B, 1, none⟩ = some (.slice (some ⟨g, 0, none⟩) (x.1.length + x.2.length) cap) ∧ W3.drew.cell? ⟨B, 2, none⟩ = some (.int .i64 x.2.length) := ⟨o0, o1, o2⟩
      refine wp_region_takes (fun W' : World => W'.cell? ⟨B, 0, none⟩ = some (.bool b) ∧ W'.cell? ⟨B, 1, none⟩ = some (.slice (some ⟨g, 0, none⟩) (x.1.length + x.2.length) cap) ∧ W'.cell? ⟨B, 2, none⟩ = some (.int .i64 x.2.length))
        [0, 2, 5, 6] 7 (by intro _ _ d _ _ h; cases d <;> exact h) (by kernel_rfl) (by kernel_rfl) hS0 ?_
      (iterate 4 (first | (refine takes_yes (v := ?_) rfl (by rfl) ?_ ?_; rotate_left; (focus ((intro w' hS'; (try dsimp only at hS'); go_simp; try (with_reducible rfl)); done)); (try simp only [Act.put, List.setIfInBounds_toArray, List.set_cons_zero, List.set_cons_succ])) | (refine takes_no rfl (by rfl) ?_; (try simp only [Act.put, List.setIfInBounds_toArray, List.set_cons_zero, List.set_cons_succ]))))
      refine takes_nil ?_
      refine wpAnyH_ready (rs := [1, 3]) (by kernel_rfl) (by simp) (AllReadyH.cons rfl (fun K hK => ?_) (AllReadyH.cons rfl (fun K hK => ?_) AllReadyH.nil))
      · go_simp
        refine hK.out _ _ hS0 (fun _ => ?_)
        clear hK K
        refine wpAnyH_only 3 (by kernel_rfl) rfl (fun K hK => ?_)
        go_simp
        refine (frac_num2 _ x _ (HH.out.below hb03.drew)).mono ?_
        rintro e w4 ⟨⟨p4, cap4, rfl, hc3, hc4, hB4⟩, hb4⟩
        have hB3 : B < W3.heap.size := World.block_lt_of_cell? W3 _ o0
        have hq3 : q < W3.heap.size := World.block_lt_of_cell? W3 _ q1
        have a0 := (hb4.cell (p := ⟨B, 0, none⟩) hB3).trans hS0.1
        have a1 := (hb4.cell (p := ⟨B, 1, none⟩) hB3).trans hS0.2.1
        have a2 := (hb4.cell (p := ⟨B, 2, none⟩) hB3).trans hS0.2.2
        have p1 := (hb4.cell (p := ⟨q, 1, none⟩) hq3).trans q1
        have p0 := (hb4.cell (p := ⟨q, 0, none⟩) hq3).trans q0
        have p2 := (hb4.cell (p := ⟨q, 2, none⟩) hq3).trans q2
        have x0 := (hb4.frozen (p := ⟨q, 0, none⟩) hq3).trans y0
        have x1 := (hb4.frozen (p := ⟨q, 1, none⟩) hq3).trans y1
        have x2 := (hb4.frozen (p := ⟨q, 2, none⟩) hq3).trans y2
        have ho4 := own_below (World.ownsRow.drew ho3) hb4
        have hr4 := (show ResC W3.drew (B + 1) from ⟨hr3.c0, hr3.c1, hr3.c2, hr3.z0, hr3.z1, hr3.z2, hr3.lt⟩).below hb4
        have hb04 : Below w.heap.size w w4 := hb03.drew.trans (hb4.mono hb03.size)
        have hs4 : W3.heap.size ≤ w4.heap.size := hb4.size
        refine hK.out _ _ ⟨a0, a1, a2⟩ (fun _ => ?_)
        clear hK K hS0 o0 o1 o2 q0 q1 q2 y0 y1 y2 ho3 hr3 hb4
        refine wpAnyH_only 4 (by kernel_rfl) rfl (fun K hK => ?_)
        rw [if_pos (by rfl)]
        obtain ⟨i, hi, hz, h2, h3⟩ := elem_bytes.info
        refine wp_append_own w4 _ _ 71 rfl w1.heap.size 5 i _ 1 1 elem_bytes.under hi hz h2 h3 elem_bytes.zsize elem_bytes.pos _ _ _ rfl ho4 p4 x.2.length cap4 (digs x.2) rfl (by simp [digs]) (digs_cells hB4) (digs_one x.2)
            (by unfold maxLen; have := decL_short 9 r (by omega); omega) (by have := decL_short 9 r (by omega); omega) (by have := HQ.out; omega) ?_
        intro v5 w5 ho5 hg5 _
        have hBg : some B ≠ (Value.slice (some ⟨g2, 0, none⟩) (decL r).length cap2).ownBlock := fun e => by simp [Value.ownBlock] at e; have := HBq.out; omega
        have hqg : some q ≠ (Value.slice (some ⟨g2, 0, none⟩) (decL r).length cap2).ownBlock := fun e => by simp [Value.ownBlock] at e; have := HQ.out; omega
        have hBg1 : some (B + 1) ≠ (Value.slice (some ⟨g2, 0, none⟩) (decL r).length cap2).ownBlock := fun e => by
          simp [Value.ownBlock] at e
          have hb1 := hr1lt.out
          have := HBq.out
          omega
        have hpos : 0 < (decL r).length + x.2.length := by have := List.length_pos_iff.2 (decL_ne r); omega
        obtain ⟨g5, cap5, rfl, hg51, hg52, _⟩ := own_some ho5 hpos
        have b0 := hg5.cell a0 hBg
        have b1 := hg5.cell a1 hBg
        have b2 := hg5.cell a2 hBg
        have r0 := hg5.cell p0 hqg
        have r1 := hg5.cell p1 hqg
        have r2 := hg5.cell p2 hqg
        have hq4 : q < w4.heap.size := World.block_lt_of_cell? w4 _ p0
        have f0 := (World.frozen?_of_block (a := ⟨q, 0, none⟩) (hg5.block q hq4 hqg)).trans x0
        have f1 := (World.frozen?_of_block (a := ⟨q, 1, none⟩) (hg5.block q hq4 hqg)).trans x1
        have f2 := (World.frozen?_of_block (a := ⟨q, 2, none⟩) (hg5.block q hq4 hqg)).trans x2
        have hr5 := hr4.grown hg5 hBg1
        have hb05 : Below w.heap.size w w5 := hb04.grown hg5 hb04.size (fun k hk => by have hk2 : g2 = k := Option.some.inj hk; have := hg2.1; omega)
        have hBq1 : B + 1 < q := by have := hr1lt.out; have := HBq.out; have := HQ.out; omega
        have hBw : w.heap.size ≤ B := by have := HBq.out; omega
        simp only [Act.put, List.setIfInBounds_toArray, List.set_cons_zero, List.set_cons_succ]
        refine hK.out _ _ ⟨b0, b1, b2⟩ (fun _ => ?_)
        clear hK K a0 a1 a2 p0 p1 p2 x0 x1 x2 hr4 hb04 ho4 hB4 hg5 hBg hqg hBg1 hi hz
        refine wpAnyH_more [7] 3 rfl (by intro _ _ d _ _ h; cases d <;> exact h) (by kernel_rfl) (by kernel_rfl) ⟨b0, b1, b2⟩ ?_
        (iterate 1 (first | (refine takes_yes (v := ?_) rfl (by rfl) ?_ ?_; rotate_left; (focus ((intro w' hS'; (try dsimp only at hS'); go_simp; try (with_reducible rfl)); done)); (try simp only [Act.put, List.setIfInBounds_toArray, List.set_cons_zero, List.set_cons_succ])) | (refine takes_no rfl (by rfl) ?_; (try simp only [Act.put, List.setIfInBounds_toArray, List.set_cons_zero, List.set_cons_succ]))))
        refine takes_nil ?_
        refine wpAnyH_only 8 (by kernel_rfl) rfl (fun K hK => ?_)
        go_simp
        have hne1 : ¬ q = B := by omega
        refine hK.out _ _ ⟨by rw [World.cell?_setCell_other (h := by first | (simp; done) | (simp; omega))]; exact b0, by rw [World.cell?_setCell_other (h := by first | (simp; done) | (simp; omega))]; exact b1, by rw [World.cell?_setCell_other (h := by first | (simp; done) | (simp; omega))]; exact b2⟩ (fun _ => ?_)
        clear hK K
        have t0 : (w5.setCell ⟨q, 1, none⟩ (.slice (some ⟨g5, 0, none⟩) ((decL r).length + x.2.length) cap5)).cell? ⟨q, 0, none⟩ = some (.bool false) := by rw [World.cell?_setCell_other (h := by simp)]; exact r0
        have t1 : (w5.setCell ⟨q, 1, none⟩ (.slice (some ⟨g5, 0, none⟩) ((decL r).length + x.2.length) cap5)).cell? ⟨q, 1, none⟩ = some (.slice (some ⟨g5, 0, none⟩) ((decL r).length + x.2.length) cap5) := by rw [World.cell?_setCell_same (h := r1)]
        have t2 : (w5.setCell ⟨q, 1, none⟩ (.slice (some ⟨g5, 0, none⟩) ((decL r).length + x.2.length) cap5)).cell? ⟨q, 2, none⟩ = some (.int .i64 0) := by rw [World.cell?_setCell_other (h := by simp)]; exact r2
        have u2 : (w5.setCell ⟨q, 1, none⟩ (.slice (some ⟨g5, 0, none⟩) ((decL r).length + x.2.length) cap5)).frozen? ⟨q, 2, none⟩ = false := by simpa using f2
        have c0 : (w5.setCell ⟨q, 1, none⟩ (.slice (some ⟨g5, 0, none⟩) ((decL r).length + x.2.length) cap5)).cell? ⟨B, 0, none⟩ = some (.bool b) := by rw [World.cell?_setCell_other (h := by first | (simp; done) | (simp; omega))]; exact b0
        have c1 : (w5.setCell ⟨q, 1, none⟩ (.slice (some ⟨g5, 0, none⟩) ((decL r).length + x.2.length) cap5)).cell? ⟨B, 1, none⟩ = some (.slice (some ⟨g, 0, none⟩) (x.1.length + x.2.length) cap) := by rw [World.cell?_setCell_other (h := by first | (simp; done) | (simp; omega))]; exact b1
        have c2 : (w5.setCell ⟨q, 1, none⟩ (.slice (some ⟨g5, 0, none⟩) ((decL r).length + x.2.length) cap5)).cell? ⟨B, 2, none⟩ = some (.int .i64 x.2.length) := by rw [World.cell?_setCell_other (h := by first | (simp; done) | (simp; omega))]; exact b2
        have hr6 := hr5.set (a := ⟨q, 1, none⟩) (by show q ≠ B + 1; omega) (.slice (some ⟨g5, 0, none⟩) ((decL r).length + x.2.length) cap5)
        have hb06 := hb05.setCell (p := ⟨q, 1, none⟩) (show w.heap.size ≤ q by omega) (.slice (some ⟨g5, 0, none⟩) ((decL r).length + x.2.length) cap5)
        have hg5q : g5 ≠ q := fun e => by
          subst e
          exact own_not_bool ho5 (decL_ne r) r0
        have ho6 := own_set (p := ⟨q, 1, none⟩) ho5 (fun e => hg5q (by simpa [Value.ownBlock, eq_comm] using e)) (.slice (some ⟨g5, 0, none⟩) ((decL r).length + x.2.length) cap5)
        clear b0 b1 b2 r0 r1 r2 f0 f1 f2 hr5 hb05 ho5
        generalize w5.setCell ⟨q, 1, none⟩ (.slice (some ⟨g5, 0, none⟩) ((decL r).length + x.2.length) cap5) = w6 at *
        refine wpAnyH_more [9] 1 rfl (by intro _ _ d _ _ h; cases d <;> exact h) (by kernel_rfl) (by kernel_rfl) ⟨c0, c1, c2⟩ ?_
        (iterate 1 (first | (refine takes_yes (v := ?_) rfl (by rfl) ?_ ?_; rotate_left; (focus ((intro w' hS'; (try dsimp only at hS'); go_simp; try (with_reducible rfl)); done)); (try simp only [Act.put, List.setIfInBounds_toArray, List.set_cons_zero, List.set_cons_succ])) | (refine takes_no rfl (by rfl) ?_; (try simp only [Act.put, List.setIfInBounds_toArray, List.set_cons_zero, List.set_cons_succ]))))
        refine takes_nil ?_
        refine wpAnyH_only 10 (by kernel_rfl) rfl (fun K hK => ?_)
        go_simp
        refine hK.out _ _ ⟨by rw [World.cell?_setCell_other (h := by first | (simp; done) | (simp; omega))]; exact c0, by rw [World.cell?_setCell_other (h := by first | (simp; done) | (simp; omega))]; exact c1, by rw [World.cell?_setCell_other (h := by first | (simp; done) | (simp; omega))]; exact c2⟩ (fun _ => ?_)
        clear hK K
        have d0 : (w6.setCell ⟨q, 2, none⟩ (.int .i64 x.2.length)).cell? ⟨q, 0, none⟩ = some (.bool false) := by rw [World.cell?_setCell_other (h := by simp)]; exact t0
        have d1 : (w6.setCell ⟨q, 2, none⟩ (.int .i64 x.2.length)).cell? ⟨q, 1, none⟩ = some (.slice (some ⟨g5, 0, none⟩) ((decL r).length + x.2.length) cap5) := by rw [World.cell?_setCell_other (h := by simp)]; exact t1
        have d2 : (w6.setCell ⟨q, 2, none⟩ (.int .i64 x.2.length)).cell? ⟨q, 2, none⟩ = some (.int .i64 x.2.length) := by rw [World.cell?_setCell_same (h := t2)]
        have hr7 := hr6.set (a := ⟨q, 2, none⟩) (by show q ≠ B + 1; omega) (.int .i64 x.2.length)
        have hb07 := hb06.setCell (p := ⟨q, 2, none⟩) (show w.heap.size ≤ q by omega) (.int .i64 x.2.length)
        have ho7 := own_set (p := ⟨q, 2, none⟩) ho6 (fun e => hg5q (by simpa [Value.ownBlock, eq_comm] using e)) (.int .i64 x.2.length)
        clear t0 t1 t2 u2 c0 c1 c2 hr6 hb06 ho6
        generalize w6.setCell ⟨q, 2, none⟩ (.int .i64 x.2.length) = w7 at *
        refine wpAnyH_done (by kernel_rfl) ?_ _
        have e0 := hr7.c0
        have e1 := hr7.c1
        have e2 := hr7.c2
        have z0 := hr7.z0
        have z1 := hr7.z1
        have z2 := hr7.z2
        have HO7 := Lib.hid ho7
        have HR7 := Lib.hid hr7
        clear ho7 hr7
        go_wp2
        refine bodyPost_ret (v := .agg #[.bool false, .slice (some ⟨g5, 0, none⟩) ((decL r).length + x.2.length) cap5, .int .i64 x.2.length]) ?_ rfl ?_
        · simp [results, Tryz.results78, go_sem, e0, e1, e2]
        rw [← HR.out]
        refine num_store (w := w) ?_ HR7.out (by omega) hb07
        have hdd : digs (decL r) ++ digs x.2 = digs (decL r ++ x.2) := by simp [digs]
        have ho8 := HO7.out
        rw [hdd] at ho8
        have hsz := decL_short 9 r (by omega)
        exact num_own (w := w) (x := (decL r, x.2)) rfl (by simp) (own_mono ho8 (by omega)) ⟨decL_dig r, HO.out.dig2, decL_ne r, by show (decL r).length ≤ 100; omega, hl2⟩
      · skip
        go_simp
        refine (frac_num2 _ x _ (HH.out.below hb03.drew)).mono ?_
        rintro e w4 ⟨⟨p4, cap4, rfl, hc3, hc4, hB4⟩, hb4⟩
        have hB3 : B < W3.heap.size := World.block_lt_of_cell? W3 _ o0
        have hq3 : q < W3.heap.size := World.block_lt_of_cell? W3 _ q1
        have a0 := (hb4.cell (p := ⟨B, 0, none⟩) hB3).trans hS0.1
        have a1 := (hb4.cell (p := ⟨B, 1, none⟩) hB3).trans hS0.2.1
        have a2 := (hb4.cell (p := ⟨B, 2, none⟩) hB3).trans hS0.2.2
        have p1 := (hb4.cell (p := ⟨q, 1, none⟩) hq3).trans q1
        have p0 := (hb4.cell (p := ⟨q, 0, none⟩) hq3).trans q0
        have p2 := (hb4.cell (p := ⟨q, 2, none⟩) hq3).trans q2
        have x0 := (hb4.frozen (p := ⟨q, 0, none⟩) hq3).trans y0
        have x1 := (hb4.frozen (p := ⟨q, 1, none⟩) hq3).trans y1
        have x2 := (hb4.frozen (p := ⟨q, 2, none⟩) hq3).trans y2
        have ho4 := own_below (World.ownsRow.drew ho3) hb4
        have hr4 := (show ResC W3.drew (B + 1) from ⟨hr3.c0, hr3.c1, hr3.c2, hr3.z0, hr3.z1, hr3.z2, hr3.lt⟩).below hb4
        have hb04 : Below w.heap.size w w4 := hb03.drew.trans (hb4.mono hb03.size)
        have hs4 : W3.heap.size ≤ w4.heap.size := hb4.size
        refine hK.out _ _ ⟨a0, a1, a2⟩ (fun _ => ?_)
        clear hK K hS0 o0 o1 o2 q0 q1 q2 y0 y1 y2 ho3 hr3 hb4
        refine wpAnyH_only 1 (by kernel_rfl) rfl (fun K hK => ?_)
        go_simp
        refine hK.out _ _ ⟨a0, a1, a2⟩ (fun _ => ?_)
        clear hK K
        refine wpAnyH_only 4 (by kernel_rfl) rfl (fun K hK => ?_)
        rw [if_pos (by rfl)]
        obtain ⟨i, hi, hz, h2, h3⟩ := elem_bytes.info
        refine wp_append_own w4 _ _ 71 rfl w1.heap.size 5 i _ 1 1 elem_bytes.under hi hz h2 h3 elem_bytes.zsize elem_bytes.pos _ _ _ rfl ho4 p4 x.2.length cap4 (digs x.2) rfl (by simp [digs]) (digs_cells hB4) (digs_one x.2)
            (by unfold maxLen; have := decL_short 9 r (by omega); omega) (by have := decL_short 9 r (by omega); omega) (by have := HQ.out; omega) ?_
        intro v5 w5 ho5 hg5 _
        have hBg : some B ≠ (Value.slice (some ⟨g2, 0, none⟩) (decL r).length cap2).ownBlock := fun e => by simp [Value.ownBlock] at e; have := HBq.out; omega
        have hqg : some q ≠ (Value.slice (some ⟨g2, 0, none⟩) (decL r).length cap2).ownBlock := fun e => by simp [Value.ownBlock] at e; have := HQ.out; omega
        have hBg1 : some (B + 1) ≠ (Value.slice (some ⟨g2, 0, none⟩) (decL r).length cap2).ownBlock := fun e => by
          simp [Value.ownBlock] at e
          have hb1 := hr1lt.out
          have := HBq.out
          omega
        have hpos : 0 < (decL r).length + x.2.length := by have := List.length_pos_iff.2 (decL_ne r); omega
        obtain ⟨g5, cap5, rfl, hg51, hg52, _⟩ := own_some ho5 hpos
        have b0 := hg5.cell a0 hBg
        have b1 := hg5.cell a1 hBg
        have b2 := hg5.cell a2 hBg
        have r0 := hg5.cell p0 hqg
        have r1 := hg5.cell p1 hqg
        have r2 := hg5.cell p2 hqg
        have hq4 : q < w4.heap.size := World.block_lt_of_cell? w4 _ p0
        have f0 := (World.frozen?_of_block (a := ⟨q, 0, none⟩) (hg5.block q hq4 hqg)).trans x0
        have f1 := (World.frozen?_of_block (a := ⟨q, 1, none⟩) (hg5.block q hq4 hqg)).trans x1
        have f2 := (World.frozen?_of_block (a := ⟨q, 2, none⟩) (hg5.block q hq4 hqg)).trans x2
        have hr5 := hr4.grown hg5 hBg1
        have hb05 : Below w.heap.size w w5 := hb04.grown hg5 hb04.size (fun k hk => by have hk2 : g2 = k := Option.some.inj hk; have := hg2.1; omega)
        have hBq1 : B + 1 < q := by have := hr1lt.out; have := HBq.out; have := HQ.out; omega
        have hBw : w.heap.size ≤ B := by have := HBq.out; omega
        simp only [Act.put, List.setIfInBounds_toArray, List.set_cons_zero, List.set_cons_succ]
        refine hK.out _ _ ⟨b0, b1, b2⟩ (fun _ => ?_)
        clear hK K a0 a1 a2 p0 p1 p2 x0 x1 x2 hr4 hb04 ho4 hB4 hg5 hBg hqg hBg1 hi hz
        refine wpAnyH_more [7] 3 rfl (by intro _ _ d _ _ h; cases d <;> exact h) (by kernel_rfl) (by kernel_rfl) ⟨b0, b1, b2⟩ ?_
        (iterate 1 (first | (refine takes_yes (v := ?_) rfl (by rfl) ?_ ?_; rotate_left; (focus ((intro w' hS'; (try dsimp only at hS'); go_simp; try (with_reducible rfl)); done)); (try simp only [Act.put, List.setIfInBounds_toArray, List.set_cons_zero, List.set_cons_succ])) | (refine takes_no rfl (by rfl) ?_; (try simp only [Act.put, List.setIfInBounds_toArray, List.set_cons_zero, List.set_cons_succ]))))
        refine takes_nil ?_
        refine wpAnyH_only 8 (by kernel_rfl) rfl (fun K hK => ?_)
        go_simp
        have hne1 : ¬ q = B := by omega
        refine hK.out _ _ ⟨by rw [World.cell?_setCell_other (h := by first | (simp; done) | (simp; omega))]; exact b0, by rw [World.cell?_setCell_other (h := by first | (simp; done) | (simp; omega))]; exact b1, by rw [World.cell?_setCell_other (h := by first | (simp; done) | (simp; omega))]; exact b2⟩ (fun _ => ?_)
        clear hK K
        have t0 : (w5.setCell ⟨q, 1, none⟩ (.slice (some ⟨g5, 0, none⟩) ((decL r).length + x.2.length) cap5)).cell? ⟨q, 0, none⟩ = some (.bool false) := by rw [World.cell?_setCell_other (h := by simp)]; exact r0
        have t1 : (w5.setCell ⟨q, 1, none⟩ (.slice (some ⟨g5, 0, none⟩) ((decL r).length + x.2.length) cap5)).cell? ⟨q, 1, none⟩ = some (.slice (some ⟨g5, 0, none⟩) ((decL r).length + x.2.length) cap5) := by rw [World.cell?_setCell_same (h := r1)]
        have t2 : (w5.setCell ⟨q, 1, none⟩ (.slice (some ⟨g5, 0, none⟩) ((decL r).length + x.2.length) cap5)).cell? ⟨q, 2, none⟩ = some (.int .i64 0) := by rw [World.cell?_setCell_other (h := by simp)]; exact r2
        have u2 : (w5.setCell ⟨q, 1, none⟩ (.slice (some ⟨g5, 0, none⟩) ((decL r).length + x.2.length) cap5)).frozen? ⟨q, 2, none⟩ = false := by simpa using f2
        have c0 : (w5.setCell ⟨q, 1, none⟩ (.slice (some ⟨g5, 0, none⟩) ((decL r).length + x.2.length) cap5)).cell? ⟨B, 0, none⟩ = some (.bool b) := by rw [World.cell?_setCell_other (h := by first | (simp; done) | (simp; omega))]; exact b0
        have c1 : (w5.setCell ⟨q, 1, none⟩ (.slice (some ⟨g5, 0, none⟩) ((decL r).length + x.2.length) cap5)).cell? ⟨B, 1, none⟩ = some (.slice (some ⟨g, 0, none⟩) (x.1.length + x.2.length) cap) := by rw [World.cell?_setCell_other (h := by first | (simp; done) | (simp; omega))]; exact b1
        have c2 : (w5.setCell ⟨q, 1, none⟩ (.slice (some ⟨g5, 0, none⟩) ((decL r).length + x.2.length) cap5)).cell? ⟨B, 2, none⟩ = some (.int .i64 x.2.length) := by rw [World.cell?_setCell_other (h := by first | (simp; done) | (simp; omega))]; exact b2
        have hr6 := hr5.set (a := ⟨q, 1, none⟩) (by show q ≠ B + 1; omega) (.slice (some ⟨g5, 0, none⟩) ((decL r).length + x.2.length) cap5)
        have hb06 := hb05.setCell (p := ⟨q, 1, none⟩) (show w.heap.size ≤ q by omega) (.slice (some ⟨g5, 0, none⟩) ((decL r).length + x.2.length) cap5)
        have hg5q : g5 ≠ q := fun e => by
          subst e
          exact own_not_bool ho5 (decL_ne r) r0
        have ho6 := own_set (p := ⟨q, 1, none⟩) ho5 (fun e => hg5q (by simpa [Value.ownBlock, eq_comm] using e)) (.slice (some ⟨g5, 0, none⟩) ((decL r).length + x.2.length) cap5)
        clear b0 b1 b2 r0 r1 r2 f0 f1 f2 hr5 hb05 ho5
        generalize w5.setCell ⟨q, 1, none⟩ (.slice (some ⟨g5, 0, none⟩) ((decL r).length + x.2.length) cap5) = w6 at *
        refine wpAnyH_more [9] 1 rfl (by intro _ _ d _ _ h; cases d <;> exact h) (by kernel_rfl) (by kernel_rfl) ⟨c0, c1, c2⟩ ?_
        (iterate 1 (first | (refine takes_yes (v := ?_) rfl (by rfl) ?_ ?_; rotate_left; (focus ((intro w' hS'; (try dsimp only at hS'); go_simp; try (with_reducible rfl)); done)); (try simp only [Act.put, List.setIfInBounds_toArray, List.set_cons_zero, List.set_cons_succ])) | (refine takes_no rfl (by rfl) ?_; (try simp only [Act.put, List.setIfInBounds_toArray, List.set_cons_zero, List.set_cons_succ]))))
        refine takes_nil ?_
        refine wpAnyH_only 10 (by kernel_rfl) rfl (fun K hK => ?_)
        go_simp
        refine hK.out _ _ ⟨by rw [World.cell?_setCell_other (h := by first | (simp; done) | (simp; omega))]; exact c0, by rw [World.cell?_setCell_other (h := by first | (simp; done) | (simp; omega))]; exact c1, by rw [World.cell?_setCell_other (h := by first | (simp; done) | (simp; omega))]; exact c2⟩ (fun _ => ?_)
        clear hK K
        have d0 : (w6.setCell ⟨q, 2, none⟩ (.int .i64 x.2.length)).cell? ⟨q, 0, none⟩ = some (.bool false) := by rw [World.cell?_setCell_other (h := by simp)]; exact t0
        have d1 : (w6.setCell ⟨q, 2, none⟩ (.int .i64 x.2.length)).cell? ⟨q, 1, none⟩ = some (.slice (some ⟨g5, 0, none⟩) ((decL r).length + x.2.length) cap5) := by rw [World.cell?_setCell_other (h := by simp)]; exact t1
        have d2 : (w6.setCell ⟨q, 2, none⟩ (.int .i64 x.2.length)).cell? ⟨q, 2, none⟩ = some (.int .i64 x.2.length) := by rw [World.cell?_setCell_same (h := t2)]
        have hr7 := hr6.set (a := ⟨q, 2, none⟩) (by show q ≠ B + 1; omega) (.int .i64 x.2.length)
        have hb07 := hb06.setCell (p := ⟨q, 2, none⟩) (show w.heap.size ≤ q by omega) (.int .i64 x.2.length)
        have ho7 := own_set (p := ⟨q, 2, none⟩) ho6 (fun e => hg5q (by simpa [Value.ownBlock, eq_comm] using e)) (.int .i64 x.2.length)
        clear t0 t1 t2 u2 c0 c1 c2 hr6 hb06 ho6
        generalize w6.setCell ⟨q, 2, none⟩ (.int .i64 x.2.length) = w7 at *
        refine wpAnyH_done (by kernel_rfl) ?_ _
        have e0 := hr7.c0
        have e1 := hr7.c1
        have e2 := hr7.c2
        have z0 := hr7.z0
        have z1 := hr7.z1
        have z2 := hr7.z2
        have HO7 := Lib.hid ho7
        have HR7 := Lib.hid hr7
        clear ho7 hr7
        go_wp2
        refine bodyPost_ret (v := .agg #[.bool false, .slice (some ⟨g5, 0, none⟩) ((decL r).length + x.2.length) cap5, .int .i64 x.2.length]) ?_ rfl ?_
        · simp [results, Tryz.results78, go_sem, e0, e1, e2]
        rw [← HR.out]
        refine num_store (w := w) ?_ HR7.out (by omega) hb07
        have hdd : digs (decL r) ++ digs x.2 = digs (decL r ++ x.2) := by simp [digs]
        have ho8 := HO7.out
        rw [hdd] at ho8
        have hsz := decL_short 9 r (by omega)
        exact num_own (w := w) (x := (decL r, x.2)) rfl (by simp) (own_mono ho8 (by omega)) ⟨decL_dig r, HO.out.dig2, decL_ne r, by show (decL r).length ≤ 100; omega, hl2⟩
end Go.Proofs.YtkhdbolnhcfgkaaGreatDoor

/- Tests as function values; spans. -/
namespace Go.Proofs.YtkhdbolnhcfgkaaGreatDoor
open Go Go.RowKit
set_option maxRecDepth 10000

/-- blocks from lo to hi are as they were -/
def KeepR (lo hi : Nat) (w W : World) : Prop := hi ≤ W.heap.size ∧ ∀ k, lo ≤ k → k < hi → W.heap[k]? = w.heap[k]?

theorem KeepR.below {lo hi : Nat} {w W W' : World} (h : KeepR lo hi w W) (hb : Below W.heap.size W W') : KeepR lo hi w W' :=
  ⟨Nat.le_trans h.1 hb.size, fun k h1 h2 => (hb.block k (Nat.lt_of_lt_of_le h2 h.1)).trans (h.2 k h1 h2)⟩
theorem KeepR.cell {lo hi : Nat} {w W : World} (h : KeepR lo hi w W) {p : Addr} (h1 : lo ≤ p.block) (h2 : p.block < hi) : W.cell? p = w.cell? p := World.cell?_of_block (w := w) (h.2 p.block h1 h2)
/-- a world between -/
theorem KeepR.via {lo hi lo' hi' : Nat} {w w' W : World} (h : KeepR lo' hi' w' W) (hk : KeepR lo hi w w') (h1 : lo' ≤ lo) (h2 : hi ≤ hi') : KeepR lo hi w W :=
  ⟨Nat.le_trans h2 h.1, fun k a b => (h.2 k (by omega) (by omega)).trans (hk.2 k a b)⟩

/-- a function value that tests numbers; it hangs on the blocks from lo to hi alone -/
def TestR (lo hi : Nat) (w : World) (v : Value) (T : Tst) : Prop :=
  ∃ k cap, v = .func (.func k) #[] cap ∧ (∀ args w, (callFunc k args).run Tryz.prog w = .ok (.enter k args) w) ∧
    ∀ W, KeepR lo hi w W → ∀ nv x, NumV W nv x → Calls Tryz.prog k (#[nv] ++ cap) W fun e W' => e = .returned (.bool (T x)) ∧ Below W.heap.size W W'

/-- a function value that makes numbers of numbers -/
def OpR (lo hi : Nat) (w : World) (v : Value) (F : Dg → Dg) : Prop :=
  ∃ k cap, v = .func (.func k) #[] cap ∧ (∀ args w, (callFunc k args).run Tryz.prog w = .ok (.enter k args) w) ∧
    ∀ W, KeepR lo hi w W → ∀ nv x, NumV W nv x → Calls Tryz.prog k (#[nv] ++ cap) W (NumPost' (F x) W)

theorem TestR.keep {lo hi lo' hi' : Nat} {w w' : World} {v : Value} {T : Tst} (h : TestR lo hi w v T) (hk : KeepR lo hi w w') (h1 : lo' ≤ lo) (h2 : hi ≤ hi') : TestR lo' hi' w' v T := by
  obtain ⟨k, cap, hv, he, hc⟩ := h
  exact ⟨k, cap, hv, he, fun W hW => hc W (hW.via hk h1 h2)⟩
theorem OpR.keep {lo hi lo' hi' : Nat} {w w' : World} {v : Value} {F : Dg → Dg} (h : OpR lo hi w v F) (hk : KeepR lo hi w w') (h1 : lo' ≤ lo) (h2 : hi ≤ hi') : OpR lo' hi' w' v F := by
  obtain ⟨k, cap, hv, he, hc⟩ := h
  exact ⟨k, cap, hv, he, fun W hW => hc W (hW.via hk h1 h2)⟩

theorem keep_refl {lo hi : Nat} {w : World} (h : hi ≤ w.heap.size) : KeepR lo hi w w := ⟨h, fun _ _ _ => rfl⟩
theorem keep_below {lo hi B : Nat} {w w' : World} (h : Below B w w') (hb : hi ≤ B) (h2 : hi ≤ w.heap.size) : KeepR lo hi w w' := ⟨Nat.le_trans h2 h.size, fun k _ hk => h.block k (by omega)⟩

set_option maxHeartbeats 1000000 in
theorem span1_any (v : Value) (x : Dg) (a b : Nat) (br : Bool) (pa pb pc : Nat) (w : World) (h : NumV w v x) (ha : a ≤ 1000000000) (hb : b ≤ 1000000000) (ca : w.cell? ⟨pa, 0, none⟩ = some (.int .i64 a)) (cb : w.cell? ⟨pb, 0, none⟩ = some (.int .i64 b)) (cc : w.cell? ⟨pc, 0, none⟩ = some (.bool br)) :
    Calls Tryz.prog 108 #[v, .pointer (some ⟨pa, 0, none⟩), .pointer (some ⟨pb, 0, none⟩), .pointer (some ⟨pc, 0, none⟩)] w fun e w' => e = .returned (.bool (spanT a b br x)) ∧ Below w.heap.size w w' := by
  have hC := fun W m (hW : NumV W v x) (hm : m ≤ 1000000000) => compare_any v x m W hW hm
  have hK := fun W (hW : NumV W v x) => broken_any v x W hW
  obtain ⟨r, hr⟩ : ∃ r, spanT a b br x = r := ⟨_, rfl⟩
  rw [hr]
  unfold spanT at hr
  obtain ⟨c1, hc1⟩ : ∃ c, cmpT x a = c := ⟨_, rfl⟩
  obtain ⟨c2, hc2⟩ : ∃ c, cmpT x b = c := ⟨_, rfl⟩
  obtain ⟨k, hk⟩ : ∃ k, brk x.2 = k := ⟨_, rfl⟩
  have h1 := fun W (hW : NumV W v x) => hC W a hW ha
  have h2 := fun W (hW : NumV W v x) => hC W b hW hb
  rw [hc1, hc2, hk] at hr
  simp only [hc1] at h1
  simp only [hc2] at h2
  simp only [hk] at hK
  have H1 := Lib.hid h1
  have H2 := Lib.hid h2
  have HK := Lib.hid hK
  have HH := Lib.hid h
  have HR := Lib.hid hr
  obtain ⟨b', g, cap, rfl, _, _, _, _, _⟩ := h
  clear hC hK h1 h2 hr hc1 hc2 hk
  have F : ∃ W, W = w.alloc (.cells #[.bool b', .slice (some ⟨g, 0, none⟩) (x.1.length + x.2.length) cap, .int .i64 x.2.length] 73) ∧ Below w.heap.size w W ∧ W.heap.size = w.heap.size + 1 ∧ W.cell? ⟨w.heap.size, 0, none⟩ = some (.bool b') ∧ W.cell? ⟨w.heap.size, 1, none⟩ = some (.slice (some ⟨g, 0, none⟩) (x.1.length + x.2.length) cap) ∧ W.cell? ⟨w.heap.size, 2, none⟩ = some (.int .i64 x.2.length) ∧
      W.cell? ⟨pa, 0, none⟩ = some (.int .i64 a) ∧ W.cell? ⟨pb, 0, none⟩ = some (.int .i64 b) ∧ W.cell? ⟨pc, 0, none⟩ = some (.bool br) :=
    ⟨_, rfl, (Below.refl _ _).alloc (Nat.le_refl _) _, by simp, by go_simp, by go_simp, by go_simp, by rw [World.cell?_alloc_some _ _ _ (by rw [ca]; rfl)]; exact ca, by rw [World.cell?_alloc_some _ _ _ (by rw [cb]; rfl)]; exact cb, by rw [World.cell?_alloc_some _ _ _ (by rw [cc]; rfl)]; exact cc⟩
  obtain ⟨W, hW, hbW, hs, d0, d1, d2, da, db, dc⟩ := F
  have HNW := Lib.hid (HH.out.below hbW)
  rw [hW] at da db dc
  go_enter Tryz.func108, Tryz.ntmps108
  go_wp2_with fail
  rw [← hW] at da db dc ⊢
  clear hW ca cb cc
  refine (H1.out _ HNW.out).mono ?_
  rintro e w1 ⟨rfl, hb1⟩
  have hlt : w.heap.size < W.heap.size := by omega
  have e0 := (hb1.cell (p := ⟨w.heap.size, 0, none⟩) hlt).trans d0
  have e1 := (hb1.cell (p := ⟨w.heap.size, 1, none⟩) hlt).trans d1
  have e2 := (hb1.cell (p := ⟨w.heap.size, 2, none⟩) hlt).trans d2
  have eb := (hb1.cell (p := ⟨pb, 0, none⟩) (World.block_lt_of_cell? W _ db)).trans db
  have ec := (hb1.cell (p := ⟨pc, 0, none⟩) (World.block_lt_of_cell? W _ dc)).trans dc
  have hbb1 : Below w.heap.size w w1 := hbW.trans (hb1.mono (by omega))
  have HN1 := Lib.hid (HNW.out.below hb1)
  have hlt1 : w.heap.size < w1.heap.size := World.block_lt_of_cell? w1 _ e0
  clear d0 d1 d2 da db dc hb1
  by_cases g1 : 0 ≤ c1
  · have g1' : decide (0 ≤ c1) = true := decide_eq_true g1
    have hr := HR.out
    rw [g1', Bool.true_and] at hr
    have HR1 := Lib.hid hr
    clear hr
    go_wp2_with fail
    refine (H2.out _ HN1.out).mono ?_
    rintro e w2 ⟨rfl, hb2⟩
    have f0 := (hb2.cell (p := ⟨w.heap.size, 0, none⟩) hlt1).trans e0
    have f1 := (hb2.cell (p := ⟨w.heap.size, 1, none⟩) hlt1).trans e1
    have f2 := (hb2.cell (p := ⟨w.heap.size, 2, none⟩) hlt1).trans e2
    have fc := (hb2.cell (p := ⟨pc, 0, none⟩) (World.block_lt_of_cell? w1 _ ec)).trans ec
    have hbb2 : Below w.heap.size w w2 := hbb1.trans (hb2.mono (by omega))
    have HN2 := Lib.hid (HN1.out.below hb2)
    clear e0 e1 e2 eb ec hb2
    by_cases g2 : c2 ≤ 0
    · have g2' : decide (c2 ≤ 0) = true := decide_eq_true g2
      have hr := HR1.out
      rw [g2', Bool.true_and] at hr
      have HR2 := Lib.hid hr
      clear hr
      cases br
      · go_wp2_with fail
        refine (HK.out _ HN2.out).mono ?_
        rintro e w3 ⟨rfl, hb3⟩
        have hbb3 : Below w.heap.size w w3 := hbb2.trans (hb3.mono hbb2.size)
        go_wp2
        go_ret
        exact ⟨by rw [← HR2.out]; rfl, hbb3⟩
      · go_wp2
        go_ret
        exact ⟨by rw [← HR2.out]; rfl, hbb2⟩
    · have g2' : decide (c2 ≤ 0) = false := decide_eq_false g2
      have hr := HR1.out
      rw [g2', Bool.false_and] at hr
      have HR2 := Lib.hid hr
      clear hr
      go_wp2
      go_ret
      exact ⟨by rw [← HR2.out]; rfl, hbb2⟩
  · have g1' : decide (0 ≤ c1) = false := decide_eq_false g1
    have hr := HR.out
    rw [g1', Bool.false_and] at hr
    have HR1 := Lib.hid hr
    clear hr
    go_wp2
    go_ret
    exact ⟨by rw [← HR1.out]; rfl, hbb1⟩

set_option maxHeartbeats 1000000 in
theorem span_any (a b : Nat) (br : Bool) (w : World) (ha : a ≤ 1000000000) (hb : b ≤ 1000000000) :
    Calls Tryz.prog 98 #[.int .i64 a, .int .i64 b, .bool br] w fun e w' => (∃ v, e = .returned v ∧ TestR w.heap.size w'.heap.size w' v (spanT a b br)) ∧ Below w.heap.size w w' := by
  have hmf : ∀ (fn : Fn) (first cap : Array Value) (w : World), (Instr.makeFunc fn first cap).run Tryz.prog w = .ok (.func fn first cap) w := fun _ _ _ _ => rfl
  go_enter Tryz.func98, Tryz.ntmps98
  go_wp2
  go_ret
  have hs : (((w.alloc (.cells #[.int .i64 a] 3)).alloc (.cells #[.int .i64 b] 3)).alloc (.cells #[.bool br] 4)).heap.size = w.heap.size + 3 := by simp
  refine ⟨⟨_, rfl, 108, _, rfl, fun args w => enters_of Tryz.func108 (by kernel_rfl) rfl args w, fun W hW nv x hx => ?_⟩, (((Below.refl _ _).alloc (Nat.le_refl _) _).alloc (by simp) _).alloc (by simp; omega) _⟩
  refine span1_any nv x a b br _ _ _ W hx ha hb ((hW.cell (Nat.le_refl _) ?_).trans ?_) ((hW.cell ?_ ?_).trans ?_) ((hW.cell ?_ ?_).trans ?_)
  all_goals first | (show w.heap.size ≤ w.heap.size + 1; omega) | (show w.heap.size ≤ w.heap.size + 1 + 1; omega) | (rw [hs]; simp; done) | (rw [hs]; simp; omega) | (show w.heap.size ≤ _; simp; done) | (show w.heap.size ≤ _; omega) | (go_simp; done)


set_option maxHeartbeats 1000000 in
theorem some11_any (v : Value) (q : Nat) (w : World) (nv : Value) (x : Dg) (T : Tst) (lo hi : Nat) (h : TestR lo hi w v T) (hhi : hi ≤ w.heap.size) (hn : NumV w nv x) (cs : Array Value) (hcs : nv = .agg cs)
    (hc : ∀ j u, cs[j]? = some u → w.cell? ⟨q, j, none⟩ = some u) :
    Calls Tryz.prog 73 #[v, .pointer (some ⟨q, 0, none⟩)] w fun e w' => e = .returned (.bool (T x)) ∧ Below w.heap.size w w' := by
  have HN := Lib.hid hn
  obtain ⟨b, g, cap, n, k, rfl⟩ := hn.form
  cases hcs
  have c0 := hc 0 _ rfl
  have c1 := hc 1 _ rfl
  have c2 := hc 2 _ rfl
  obtain ⟨K, cp, rfl, hent, hcall⟩ := h
  have hW := hcall w (keep_refl hhi) _ x HN.out
  have HW := Lib.hid hW
  clear hcall hW hc
  go_enter Tryz.func73, Tryz.ntmps73
  go_wp2_with fail
  refine HW.out.mono ?_
  rintro e w1 ⟨rfl, hb⟩
  go_wp2
  go_ret
  exact ⟨rfl, hb⟩
end Go.Proofs.YtkhdbolnhcfgkaaGreatDoor
