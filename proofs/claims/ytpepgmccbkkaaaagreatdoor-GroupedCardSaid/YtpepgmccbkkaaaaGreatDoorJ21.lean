import Derived.Test.YtpepgmccbkkaaaaGreatDoorJ20
import Derived.Laws.EntriesVeiled

/- plural's parser: relations. -/
namespace Go.Proofs.YtpepgmccbkkaaaaGreatDoor
open Go Go.RowKit
set_option maxRecDepth 10000

theorem anyW_mod (t : List Wd) : anyW [[109, 111, 100], [37]] t = modW (t.headD []) := by
  cases t with
  | nil => rfl
  | cons c u => simp [anyW, isW_cons, modW]

theorem strs_lit2 (w : World) (m m2 : Wd) (g : Nat) (hg : w.cell? ⟨g, 0, none⟩ = some (strv m)) (hg2 : w.cell? ⟨g, 1, none⟩ = some (strv m2)) : StrsAt w (.slice (some ⟨g, 0, none⟩) 2 2) [m, m2] :=
  ⟨some ⟨g, 0, none⟩, 2, rfl, Nat.le_refl _, by decide, (fun h => by cases h), fun j hj => by
    match j, hj with
    | 0, _ => exact ⟨_, rfl, by simpa [Addr.add] using hg⟩
    | 1, _ => exact ⟨_, rfl, by simpa [Addr.add] using hg2⟩⟩

theorem is_mod (p : Nat) (ws : List Wd) (W : World) (hp : PAt W p ws) :
    Calls Tryz.prog 88 #[.pointer (some ⟨p, 0, none⟩), .slice (some ⟨W.heap.size, 0, none⟩) 2 2] (W.alloc (.cells #[strv [109, 111, 100], strv [37]] 9))
      fun e w' => e = .returned (.bool (modW (ws.headD []))) ∧ PAt w' p (if modW (ws.headD []) then ws.tail else ws) ∧ But p W w' := by
  have hb : Below W.heap.size W (W.alloc (.cells #[strv [109, 111, 100], strv [37]] 9)) := (Below.refl _ _).alloc (Nat.le_refl _) _
  refine (is_any p [[109, 111, 100], [37]] ws _ _ (hp.below hb) (strs_lit2 _ _ _ _ (cell_made _ _ _ _ _) (cell_made _ _ _ _ _)) (by simp)).mono ?_
  rintro e w' ⟨rfl, h1, h2, _⟩
  rw [anyW_mod] at h1 ⊢
  exact ⟨rfl, h1, (But.of hb).trans h2⟩

set_option maxHeartbeats 1000000 in
theorem relation_nil (p : Nat) (w : World) (hp : PAt w p []) : Calls Tryz.prog 73 #[.pointer (some ⟨p, 0, none⟩)] w (ParseQ p (pRel []) w) := by
  obtain ⟨a, cap, hc, hf, h1, h2, h3⟩ := hp
  clear h3
  go_enter Tryz.func73, Tryz.ntmps73
  go_wp2
  exact ⟨rfl, rfl, But.refl _ _⟩

theorem eql_func (fn : Fn) (first cap : Array Value) (w : World) : (binOp .eql 179 (.func fn first cap) .nilFunc).run Tryz.prog w = .ok (.bool false) w := by
  have h : ∀ d : Nat, (Op.equalIn (d + 1) 179 (.func fn first cap) .nilFunc).run Tryz.prog w = .ok false w := fun d => by
    simp [Op.equalIn, run_underlying Tryz.underlying179]
  simp only [binOp]
  simp [Op.equal, Op.maxDepth, h 9999]
theorem eql_nilfunc (w : World) : (binOp .eql 179 .nilFunc .nilFunc).run Tryz.prog w = .ok (.bool true) w := by
  have h : ∀ d : Nat, (Op.equalIn (d + 1) 179 .nilFunc .nilFunc).run Tryz.prog w = .ok true w := fun d => by
    simp [Op.equalIn, run_underlying Tryz.underlying179]
  simp only [binOp]
  simp [Op.equal, Op.maxDepth, h 9999]

theorem But.frozen {p : Nat} {w w' : World} (h : But p w w') {a : Addr} (hl : a.block < w.heap.size) (ha : a.block ≠ p) : w'.frozen? a = w.frozen? a := World.frozen?_of_block (h.block a.block hl ha)

/-- a variable of the call's own -/
structure CellV (w : World) (k : Nat) (u : Value) : Prop where
  c : w.cell? ⟨k, 0, none⟩ = some u
  z : w.frozen? ⟨k, 0, none⟩ = false
  n : ¬ StrB w k

theorem strB_set {w : World} {a : Addr} {u : Value} {k : Nat} (h : StrB (w.setCell a u) k) : StrB w k := by
  obtain ⟨cs, fr, h⟩ := h
  by_cases hk : k = a.block
  · simp only [World.setCell, Array.getElem?_modify, if_pos hk.symm] at h
    cases hh : w.heap[k]? with
    | none => simp [hh] at h
    | some o =>
      simp only [hh, Option.map_some] at h
      cases o with
      | cells c e f =>
        simp only [Option.some.injEq, Obj.cells.injEq] at h
        exact ⟨c, f, by rw [hh, h.2.1]⟩
      | _ => simp at h
  · exact ⟨cs, fr, (Below.heap_setCell _ _ _ _ hk).symm.trans h⟩

theorem CellV.lt {w : World} {k : Nat} {u : Value} (h : CellV w k u) : k < w.heap.size := World.block_lt_of_cell? w _ h.c
theorem CellV.but {p k : Nat} {w w' : World} {u : Value} (h : CellV w k u) (hb : But p w w') (hp : k ≠ p) : CellV w' k u :=
  ⟨hb.cell h.c hp, (hb.frozen (a := ⟨k, 0, none⟩) h.lt hp).trans h.z, fun hs => h.n (hs.of (hb.block k h.lt hp).symm)⟩
theorem CellV.made (w : World) (u : Value) (t : TypeId) (ht : t ≠ 9) : CellV (w.alloc (.cells #[u] t)) w.heap.size u :=
  ⟨cell_made _ _ _ _ _, by simp, fun ⟨cs, fr, h⟩ => ht (by
    have : (w.alloc (.cells #[u] t)).heap[w.heap.size]? = some (.cells #[u] t) := by show (w.heap.push _)[w.heap.size]? = _; simp
    rw [this] at h
    simp only [Option.some.injEq, Obj.cells.injEq] at h
    exact h.2.1)⟩
theorem CellV.same {w : World} {k : Nat} {u : Value} (h : CellV w k u) (x : Value) : CellV (w.setCell ⟨k, 0, none⟩ x) k x := ⟨by rw [World.cell?_setCell_same (h := h.c)], by simpa using h.z, fun hs => h.n (strB_set hs)⟩
theorem CellV.other {w : World} {k j : Nat} {u : Value} (h : CellV w k u) (hj : k ≠ j) (x : Value) : CellV (w.setCell ⟨j, 0, none⟩ x) k u :=
  ⟨(World.cell?_of_block (Below.heap_setCell _ _ _ _ hj)).trans h.c, (World.frozen?_of_block (Below.heap_setCell _ _ _ _ hj)).trans h.z, fun hs => h.n (strB_set hs)⟩
theorem But.alloc {p : Nat} {w a : World} (h : But p w a) (o : Obj) : But p w (a.alloc o) := h.below ((Below.refl _ _).alloc (Nat.le_refl _) _)
theorem But.put {p k : Nat} {w a : World} (h : But p w a) (hk : w.heap.size ≤ k) (u : Value) : But p w (a.setCell ⟨k, 0, none⟩ u) :=
  ⟨h.os, h.tape, h.output, by simpa [World.setCell] using h.size, fun j hj hp => (Below.heap_setCell _ _ _ _ (show j ≠ k by omega)).trans (h.block j hj hp)⟩
theorem PAt.put {w : World} {p k : Nat} {ws : List Wd} (h : PAt w p ws) (hk : k ≠ p) (hs : ¬ StrB w k) (u : Value) : PAt (w.setCell ⟨k, 0, none⟩ u) p ws := by
  obtain ⟨a, cap, hc, hf, h1, h2, h3⟩ := h
  have hb : ∀ j, j ≠ k → (w.setCell ⟨k, 0, none⟩ u).heap[j]? = w.heap[j]? := fun j hj => Below.heap_setCell _ _ _ _ hj
  refine ⟨a, cap, (World.cell?_of_block (hb p hk.symm)).trans hc, (World.frozen?_of_block (hb p hk.symm)).trans hf, h1, h2, fun j hj => ?_⟩
  obtain ⟨b, e1, e2, e3⟩ := h3 j hj
  have hbk : b.block ≠ k := fun e => hs (e ▸ e2.2)
  exact ⟨b, e1, ⟨e2.1, e2.2.of (hb _ hbk)⟩, (World.cell?_of_block (hb _ (by rw [addr_add]; exact hbk))).trans e3⟩

set_option maxHeartbeats 4000000 in
theorem relation_cons (p : Nat) (c : Wd) (t : List Wd) (w : World) (hp : PAt w p (c :: t)) (hx : ∀ x ∈ c :: t, WOk x) (hT : RT p w) (hl : t.length ≤ 999) :
    Calls Tryz.prog 73 #[.pointer (some ⟨p, 0, none⟩)] w (ParseQ p (pRel (c :: t)) w) := by
  have HP := Lib.hid hp
  have HX := Lib.hid hx
  have HT := Lib.hid hT
  have hlt := hp.lt
  obtain ⟨a, cap, hc, hf, h1, h2, h3⟩ := hp
  obtain ⟨b, rfl, hb, hx0⟩ := h3 0 (by simp)
  have hx' : w.cell? b = some (strv c) := by
    have : (b.add 0) = b := by simp [Addr.add]
    rw [this] at hx0
    exact hx0
  have hmx : cap ≤ 9223372036854775807 := by unfold maxLen at h2; omega
  have hlen : (c :: t).length = t.length + 1 := rfl
  rw [hlen] at hc h1
  obtain ⟨r, hr⟩ : ∃ r, pRel (c :: t) = r := ⟨_, rfl⟩
  rw [hr]
  have HR := Lib.hid hr
  have hop := poperand_any ⟨c.toArray⟩ w
  rw [toList_mk] at hop
  have HOP := Lib.hid hop
  have hef := eql_func
  have hen := eql_nilfunc
  have hmf : ∀ (fn : Fn) (first cap : Array Value) (w : World), (Instr.makeFunc fn first cap).run Tryz.prog w = .ok (.func fn first cap) w := fun _ _ _ _ => rfl
  clear hx0 h3 hr hx hT hop
  go_enter Tryz.func73, Tryz.ntmps73
  go_wp2_with fail
  refine HOP.out.mono ?_
  rintro e w1 ⟨hq, rfl⟩
  cases ho : operandF c with
  | none =>
    rw [ho] at hq
    obtain rfl := hq
    have hr0 : r = none := by rw [← HR.out, pRel, ho]
    have HR0 := Lib.hid hr0
    clear hr0 ho
    go_wp2
    refine ⟨rfl, ?_, (But.refl _ _).alloc _⟩
    rw [HR0.out]
  | some F =>
    rw [ho] at hq
    obtain ⟨fv, rfl, hfv⟩ := hq
    have HFV := Lib.hid hfv
    have hK := hfv 0 0 w
    obtain ⟨kf, cpf, rfl, _⟩ := hK
    have HO := Lib.hid ho
    clear hfv ho
    by_cases hc1 : cap = 1
    · have ht0 : t = [] := List.eq_nil_of_length_eq_zero (by omega)
      subst ht0
      subst hc1
      go_wp2_with fail
      have F1 : ∃ W1, W1 = (w.setCell ⟨p, 0, none⟩ (.slice (some b) 0 0)).alloc (.cells #[.func (.func kf) #[] cpf] 179) ∧ But p w W1 ∧ W1.heap.size = w.heap.size + 1 ∧ PAt W1 p ([] : List Wd) ∧ CellV W1 w.heap.size (.func (.func kf) #[] cpf) := by
        have hs : (w.setCell ⟨p, 0, none⟩ (.slice (some b) 0 0)).heap.size = w.heap.size := by simp [World.setCell]
        refine ⟨_, rfl, (But.set p w 0 _).alloc _, by simp [World.setCell], ((HP.out.step hc).2 rfl).below ((Below.refl _ _).alloc (Nat.le_refl _) _), ?_⟩
        rw [← hs]
        exact CellV.made _ _ _ (by decide)
      obtain ⟨W1, hW1, hbut1, hs1, hp1, cQ1⟩ := F1
      have hwld : ∀ o, ((w.setCell ⟨p, 0, none⟩ (.slice (some b) 0 0)).alloc (.cells #[.func (.func kf) #[] cpf] 179)).alloc o = W1.alloc o := fun o => by rw [hW1]
      have HP1 := Lib.hid hp1
      have HS1 := Lib.hid hs1
      have him := is_mod p ([] : List Wd) W1 hp1
      rw [hs1] at him
      have HIM := Lib.hid him
      clear hp1 hs1 him
      rw [hwld]
      clear hwld hW1
      refine HIM.out.mono ?_
      rintro e w2 ⟨rfl, hp2, hb2⟩
      have hbut2 := hbut1.trans hb2
      have hQp : w.heap.size ≠ p := by omega
      have cQ2 := cQ1.but hb2 hQp
      have HP2 := Lib.hid hp2
      clear hp2 cQ1
      cases hm : modW (([] : List Wd).headD [])
      · have hq2 := HP2.out
        rw [hm] at hq2
        have HQ2 := Lib.hid hq2
        have HM := Lib.hid hm
        clear hq2 hm
        have cQ := cQ2
        obtain ⟨Q, hQ⟩ : ∃ Q, Q = w.heap.size := ⟨_, rfl⟩
        rw [← hQ] at cQ cQ2 hQp ⊢
        have HQ := Lib.hid hQ
        clear hQ
        have HMAN := Lib.hid (manner_p p (([] : List Wd)) w2 HQ2.out (fun x h => HX.out x (by simp [h])) (HT.out.but hbut2) (by omega))
        go_wp2_with fail
        refine HMAN.out.mono ?_
        rintro e w7 ⟨hq, hb7⟩
        have hbut7 := hbut2.trans hb7
        have hrr : r = match pManner (([] : List Wd)) with
            | none => none
            | some ((i, nt), v) => some ((fun x => i (F x) != nt), v) := by
          rw [← HR.out]
          rw [pRel, HO.out]; dsimp only; unfold pMod; rw [HM.out]; rfl
        cases hn : pManner (([] : List Wd)) with
        | none =>
          rw [hn] at hq hrr
          obtain rfl := hq
          have HRR := Lib.hid hrr
          clear hrr hn
          go_wp2
          refine ⟨rfl, ?_, hbut7⟩
          rw [HRR.out]
        | some q =>
          obtain ⟨⟨Tm, nt⟩, t'⟩ := q
          rw [hn] at hq hrr
          obtain ⟨⟨v, rfl, htm⟩, hp7⟩ := hq
          have HRR := Lib.hid hrr
          have HTM := Lib.hid htm
          have HP7 := Lib.hid hp7
          have cQ7 := cQ.but hb7 hQp
          have hQ7 := cQ7.lt
          have HF7 := Lib.hid (OpR.keep (lo' := w.heap.size) (hi' := w7.heap.size) (HFV.out w.heap.size w2.heap.size w2) (hb7.keep hlt (Nat.le_refl _)) (Nat.le_refl _) hb7.size)
          obtain ⟨kt, cpt, rfl, _⟩ := htm
          clear hrr hn hp7
          go_wp2
          go_ret
          have hbA := hbut7.alloc (.cells #[.func (.func kt) #[] cpt] 118)
          have hbB := hbA.alloc (.cells #[.bool nt] 4)
          have hsA : (w7.alloc (.cells #[.func (.func kt) #[] cpt] 118)).heap.size = w7.heap.size + 1 := by simp
          have hsB : ((w7.alloc (.cells #[.func (.func kt) #[] cpt] 118)).alloc (.cells #[.bool nt] 4)).heap.size = w7.heap.size + 2 := by simp
          have hbAB : Below w7.heap.size w7 ((w7.alloc (.cells #[.func (.func kt) #[] cpt] 118)).alloc (.cells #[.bool nt] 4)) := ((Below.refl _ _).alloc (Nat.le_refl _) _).alloc (by simp) _
          refine ⟨?_, hbB⟩
          rw [HRR.out]
          have hQw := HQ.out
          have hw7 := hbut7.size
          refine ⟨⟨_, rfl, 98, _, rfl, fun args w => enters_of Tryz.func98 (by kernel_rfl) rfl args w, fun W hW nv x hx => ?_⟩, HP7.out.below hbAB⟩
          rw [hsB] at hW
          have hk7 : KeepR w.heap.size w7.heap.size w7 W := hW.via (keep_below hbAB (Nat.le_refl _) (Nat.le_refl _)) (Nat.le_refl _) (by omega)
          refine rel2_any nv x _ _ _ _ _ nt Tm (F) w.heap.size w7.heap.size W hx ((hW.cell ?_ ?_).trans ?_) ((hk7.cell ?_ hQ7).trans cQ7.c) ((hW.cell ?_ ?_).trans ?_) (HTM.out.keep (hk7.via (keep_refl (Nat.le_refl _)) (by have := hbut2.size; omega) (Nat.le_refl _)) (by have := hbut2.size; omega) (Nat.le_refl _)) (HF7.out.keep hk7 (Nat.le_refl _) (Nat.le_refl _)) hk7.1
          all_goals first | (show w.heap.size ≤ w7.heap.size; omega) | (show w7.heap.size < w7.heap.size + 2; omega) | (show w.heap.size ≤ w7.heap.size + 1; omega) | (show w7.heap.size + 1 < w7.heap.size + 2; omega) | (show w.heap.size ≤ Q; omega) | (go_simp; done)
      · have hq2 := HP2.out
        rw [hm] at hq2
        have HQ2 := Lib.hid hq2
        have HM := Lib.hid hm
        clear hq2 hm
        have cQ := cQ2
        obtain ⟨Q, hQ⟩ : ∃ Q, Q = w.heap.size := ⟨_, rfl⟩
        rw [← hQ] at cQ cQ2 hQp ⊢
        have HQ := Lib.hid hQ
        clear hQ
        have HNUM := Lib.hid (fun W (hb : But p w W) (hp : PAt W p ([] : List Wd).tail) => number_any p ([] : List Wd).tail W hp (fun x h => HX.out x (List.mem_cons_of_mem _ (List.mem_of_mem_tail h))) (HT.out.but hb))
        have hS0 : w2.drew.cell? ⟨Q, 0, none⟩ = some (.func (.func kf) #[] cpf) := cQ2.c
        have hbutD := hbut2.drew
        have HPD := Lib.hid (show PAt w2.drew p ([] : List Wd).tail from HQ2.out.below (Below.refl _ w2).drew)
        have cQD : CellV w2.drew Q (.func (.func kf) #[] cpf) := ⟨cQ2.c, cQ2.z, cQ2.n⟩
        clear hbut1
        cases hn0 : pNum ([] : List Wd).tail with
        | none =>
          have HN := Lib.hid hn0
          have hr0 : r = none := by rw [← HR.out, pRel, HO.out]; dsimp only; unfold pMod; rw [HM.out, if_pos rfl, HN.out]
          have HR0 := Lib.hid hr0
          clear hn0 hr0
          go_wp2_with fail
          refine wp_region_takes (fun W' : World => W'.cell? ⟨Q, 0, none⟩ = some (.func (.func kf) #[] cpf)) [0, 2] 5 (by intro _ _ d _ _ h; cases d <;> exact h) (by kernel_rfl) (by kernel_rfl) hS0 ?_
          (iterate 2 (first | (refine takes_yes (v := ?_) rfl (by rfl) ?_ ?_; rotate_left; (focus ((intro w' hS'; (try dsimp only at hS'); go_simp; try (with_reducible rfl)); done)); (try simp only [Act.put, List.setIfInBounds_toArray, List.set_cons_zero, List.set_cons_succ])) | (refine takes_no rfl (by rfl) ?_; (try simp only [Act.put, List.setIfInBounds_toArray, List.set_cons_zero, List.set_cons_succ]))))
          refine takes_nil ?_
          generalize w2.drew = wD at hbutD HPD cQD ⊢
          refine wpAnyH_ready (rs := [1, 3, 4]) (by kernel_rfl) (by simp) (AllReadyH.cons rfl (fun K hK => ?_) (AllReadyH.cons rfl (fun K hK => ?_) (AllReadyH.cons rfl (fun K hK => ?_) AllReadyH.nil)))
          · skip
            go_simp
            refine (HNUM.out wD hbutD HPD.out).mono ?_
            rintro e wN1 ⟨hq, hbN1⟩
            rw [HN.out] at hq
            obtain rfl := hq
            refine ⟨rfl, ?_, hbutD.trans hbN1⟩
            rw [HR0.out]
          · skip
            go_simp
            have FA : ∃ N, N = wD.alloc (.cells #[(.int .i64 0)] 3) ∧ But p wD N ∧ CellV N wD.heap.size (.int .i64 0) := ⟨_, rfl, (But.refl _ _).alloc _, CellV.made _ _ _ (by decide)⟩
            obtain ⟨wN1, hW, hbN1, c4N1⟩ := FA
            have hwW : ∀ o, o = Value.pointer (some ⟨wD.heap.size, 0, none⟩) → o = o := fun _ _ => rfl
            rw [← hW]
            have HPN1 := Lib.hid (HPD.out.below (show Below wD.heap.size wD wN1 by rw [hW]; exact (Below.refl _ _).alloc (Nat.le_refl _) _))
            have hbutN1 := hbutD.trans hbN1
            have cQN1 := cQD.but hbN1 hQp
            have hk4lo : w.heap.size ≤ wD.heap.size := hbutD.size
            have hk4Q : wD.heap.size ≠ Q := fun e => by have := cQD.lt; omega
            clear hW hwW
            obtain ⟨k4, hk4⟩ : ∃ k, k = wD.heap.size := ⟨_, rfl⟩
            rw [← hk4] at c4N1 hk4lo hk4Q ⊢
            have hk4p : k4 ≠ p := by omega
            have HK4 := Lib.hid hk4
            clear hk4
            refine hK.out _ _ cQN1.c (fun _ => ?_)
            clear hK K
            refine wpAnyH_ready (rs := [1, 4]) (by kernel_rfl) (by simp) (AllReadyH.cons rfl (fun K hK => ?_) (AllReadyH.cons rfl (fun K hK => ?_) AllReadyH.nil))
            · skip
              go_simp
              refine (HNUM.out wN1 hbutN1 HPN1.out).mono ?_
              rintro e wN2 ⟨hq, hbN2⟩
              rw [HN.out] at hq
              obtain rfl := hq
              refine ⟨rfl, ?_, hbutN1.trans hbN2⟩
              rw [HR0.out]
            · skip
              go_simp
              have FA : ∃ N, N = wN1.alloc (.cells #[.nilFunc] 179) ∧ But p wN1 N ∧ CellV N wN1.heap.size .nilFunc := ⟨_, rfl, (But.refl _ _).alloc _, CellV.made _ _ _ (by decide)⟩
              obtain ⟨wN2, hW, hbN2, c5N2⟩ := FA
              have hwW : ∀ o, o = Value.pointer (some ⟨wN1.heap.size, 0, none⟩) → o = o := fun _ _ => rfl
              rw [← hW]
              have HPN2 := Lib.hid (HPN1.out.below (show Below wN1.heap.size wN1 wN2 by rw [hW]; exact (Below.refl _ _).alloc (Nat.le_refl _) _))
              have hbutN2 := hbutN1.trans hbN2
              have cQN2 := cQN1.but hbN2 hQp
              have hk5lo : w.heap.size ≤ wN1.heap.size := hbutN1.size
              have hk5Q : wN1.heap.size ≠ Q := fun e => by have := cQN1.lt; omega
              clear hW hwW
              have c4N2 := c4N1.but hbN2 hk4p
              have hk45 : wN1.heap.size ≠ k4 := fun e => by have := c4N1.lt; omega
              obtain ⟨k5, hk5⟩ : ∃ k, k = wN1.heap.size := ⟨_, rfl⟩
              rw [← hk5] at c5N2 hk5lo hk5Q ⊢
              rw [← hk5] at hk45
              have hk5p : k5 ≠ p := by omega
              have HK5 := Lib.hid hk5
              clear hk5
              refine hK.out _ _ cQN2.c (fun _ => ?_)
              clear hK K
              refine wpAnyH_only 1 (by kernel_rfl) rfl (fun K hK => ?_)
              go_simp
              refine (HNUM.out wN2 hbutN2 HPN2.out).mono ?_
              rintro e wN3 ⟨hq, hbN3⟩
              rw [HN.out] at hq
              obtain rfl := hq
              refine ⟨rfl, ?_, hbutN2.trans hbN3⟩
              rw [HR0.out]
          · skip
            go_simp
            have FA : ∃ N, N = wD.alloc (.cells #[.nilFunc] 179) ∧ But p wD N ∧ CellV N wD.heap.size .nilFunc := ⟨_, rfl, (But.refl _ _).alloc _, CellV.made _ _ _ (by decide)⟩
            obtain ⟨wN1, hW, hbN1, c5N1⟩ := FA
            have hwW : ∀ o, o = Value.pointer (some ⟨wD.heap.size, 0, none⟩) → o = o := fun _ _ => rfl
            rw [← hW]
            have HPN1 := Lib.hid (HPD.out.below (show Below wD.heap.size wD wN1 by rw [hW]; exact (Below.refl _ _).alloc (Nat.le_refl _) _))
            have hbutN1 := hbutD.trans hbN1
            have cQN1 := cQD.but hbN1 hQp
            have hk5lo : w.heap.size ≤ wD.heap.size := hbutD.size
            have hk5Q : wD.heap.size ≠ Q := fun e => by have := cQD.lt; omega
            clear hW hwW
            obtain ⟨k5, hk5⟩ : ∃ k, k = wD.heap.size := ⟨_, rfl⟩
            rw [← hk5] at c5N1 hk5lo hk5Q ⊢
            have hk5p : k5 ≠ p := by omega
            have HK5 := Lib.hid hk5
            clear hk5
            refine hK.out _ _ cQN1.c (fun _ => ?_)
            clear hK K
            refine wpAnyH_ready (rs := [1, 3]) (by kernel_rfl) (by simp) (AllReadyH.cons rfl (fun K hK => ?_) (AllReadyH.cons rfl (fun K hK => ?_) AllReadyH.nil))
            · skip
              go_simp
              refine (HNUM.out wN1 hbutN1 HPN1.out).mono ?_
              rintro e wN2 ⟨hq, hbN2⟩
              rw [HN.out] at hq
              obtain rfl := hq
              refine ⟨rfl, ?_, hbutN1.trans hbN2⟩
              rw [HR0.out]
            · skip
              go_simp
              have FA : ∃ N, N = wN1.alloc (.cells #[(.int .i64 0)] 3) ∧ But p wN1 N ∧ CellV N wN1.heap.size (.int .i64 0) := ⟨_, rfl, (But.refl _ _).alloc _, CellV.made _ _ _ (by decide)⟩
              obtain ⟨wN2, hW, hbN2, c4N2⟩ := FA
              have hwW : ∀ o, o = Value.pointer (some ⟨wN1.heap.size, 0, none⟩) → o = o := fun _ _ => rfl
              rw [← hW]
              have HPN2 := Lib.hid (HPN1.out.below (show Below wN1.heap.size wN1 wN2 by rw [hW]; exact (Below.refl _ _).alloc (Nat.le_refl _) _))
              have hbutN2 := hbutN1.trans hbN2
              have cQN2 := cQN1.but hbN2 hQp
              have hk4lo : w.heap.size ≤ wN1.heap.size := hbutN1.size
              have hk4Q : wN1.heap.size ≠ Q := fun e => by have := cQN1.lt; omega
              clear hW hwW
              have c5N2 := c5N1.but hbN2 hk5p
              have hk45 : wN1.heap.size ≠ k5 := fun e => by have := c5N1.lt; omega
              obtain ⟨k4, hk4⟩ : ∃ k, k = wN1.heap.size := ⟨_, rfl⟩
              rw [← hk4] at c4N2 hk4lo hk4Q ⊢
              rw [← hk4] at hk45
              have hk4p : k4 ≠ p := by omega
              have HK4 := Lib.hid hk4
              clear hk4
              refine hK.out _ _ cQN2.c (fun _ => ?_)
              clear hK K
              refine wpAnyH_only 1 (by kernel_rfl) rfl (fun K hK => ?_)
              go_simp
              refine (HNUM.out wN2 hbutN2 HPN2.out).mono ?_
              rintro e wN3 ⟨hq, hbN3⟩
              rw [HN.out] at hq
              obtain rfl := hq
              refine ⟨rfl, ?_, hbutN2.trans hbN3⟩
              rw [HR0.out]
        | some q0 =>
          obtain ⟨mv, t3⟩ := q0
          have HN := Lib.hid hn0
          have hmv := (pNum_small hn0).1
          have hsub := pNum_sub hn0
          clear hn0
          go_wp2_with fail
          refine wp_region_takes (fun W' : World => W'.cell? ⟨Q, 0, none⟩ = some (.func (.func kf) #[] cpf)) [0, 2] 5 (by intro _ _ d _ _ h; cases d <;> exact h) (by kernel_rfl) (by kernel_rfl) hS0 ?_
          (iterate 2 (first | (refine takes_yes (v := ?_) rfl (by rfl) ?_ ?_; rotate_left; (focus ((intro w' hS'; (try dsimp only at hS'); go_simp; try (with_reducible rfl)); done)); (try simp only [Act.put, List.setIfInBounds_toArray, List.set_cons_zero, List.set_cons_succ])) | (refine takes_no rfl (by rfl) ?_; (try simp only [Act.put, List.setIfInBounds_toArray, List.set_cons_zero, List.set_cons_succ]))))
          refine takes_nil ?_
          generalize w2.drew = wD at hbutD HPD cQD ⊢
          refine wpAnyH_ready (rs := [1, 3, 4]) (by kernel_rfl) (by simp) (AllReadyH.cons rfl (fun K hK => ?_) (AllReadyH.cons rfl (fun K hK => ?_) (AllReadyH.cons rfl (fun K hK => ?_) AllReadyH.nil)))
          · skip
            go_simp
            refine (HNUM.out wD hbutD HPD.out).mono ?_
            rintro e wN1 ⟨hq, hbN1⟩
            rw [HN.out] at hq
            obtain ⟨rfl, hpc⟩ := hq
            have HPN1 := Lib.hid hpc
            have hbutN1 := hbutD.trans hbN1
            have cQN1 := cQD.but hbN1 hQp
            clear hpc
            refine hK.out _ _ cQN1.c (fun _ => ?_)
            clear hK K
            refine wpAnyH_ready (rs := [3, 4]) (by kernel_rfl) (by simp) (AllReadyH.cons rfl (fun K hK => ?_) (AllReadyH.cons rfl (fun K hK => ?_) AllReadyH.nil))
            · skip
              go_simp
              have FA : ∃ N, N = wN1.alloc (.cells #[(.int .i64 0)] 3) ∧ But p wN1 N ∧ CellV N wN1.heap.size (.int .i64 0) := ⟨_, rfl, (But.refl _ _).alloc _, CellV.made _ _ _ (by decide)⟩
              obtain ⟨wN2, hW, hbN2, c4N2⟩ := FA
              have hwW : ∀ o, o = Value.pointer (some ⟨wN1.heap.size, 0, none⟩) → o = o := fun _ _ => rfl
              rw [← hW]
              have HPN2 := Lib.hid (HPN1.out.below (show Below wN1.heap.size wN1 wN2 by rw [hW]; exact (Below.refl _ _).alloc (Nat.le_refl _) _))
              have hbutN2 := hbutN1.trans hbN2
              have cQN2 := cQN1.but hbN2 hQp
              have hk4lo : w.heap.size ≤ wN1.heap.size := hbutN1.size
              have hk4Q : wN1.heap.size ≠ Q := fun e => by have := cQN1.lt; omega
              clear hW hwW
              obtain ⟨k4, hk4⟩ : ∃ k, k = wN1.heap.size := ⟨_, rfl⟩
              rw [← hk4] at c4N2 hk4lo hk4Q ⊢
              have hk4p : k4 ≠ p := by omega
              have HK4 := Lib.hid hk4
              clear hk4
              refine hK.out _ _ cQN2.c (fun _ => ?_)
              clear hK K
              refine wpAnyH_only 4 (by kernel_rfl) rfl (fun K hK => ?_)
              go_simp
              have FA : ∃ N, N = wN2.alloc (.cells #[.nilFunc] 179) ∧ But p wN2 N ∧ CellV N wN2.heap.size .nilFunc := ⟨_, rfl, (But.refl _ _).alloc _, CellV.made _ _ _ (by decide)⟩
              obtain ⟨wN3, hW, hbN3, c5N3⟩ := FA
              have hwW : ∀ o, o = Value.pointer (some ⟨wN2.heap.size, 0, none⟩) → o = o := fun _ _ => rfl
              rw [← hW]
              have HPN3 := Lib.hid (HPN2.out.below (show Below wN2.heap.size wN2 wN3 by rw [hW]; exact (Below.refl _ _).alloc (Nat.le_refl _) _))
              have hbutN3 := hbutN2.trans hbN3
              have cQN3 := cQN2.but hbN3 hQp
              have hk5lo : w.heap.size ≤ wN2.heap.size := hbutN2.size
              have hk5Q : wN2.heap.size ≠ Q := fun e => by have := cQN2.lt; omega
              clear hW hwW
              have c4N3 := c4N2.but hbN3 hk4p
              have hk45 : wN2.heap.size ≠ k4 := fun e => by have := c4N2.lt; omega
              obtain ⟨k5, hk5⟩ : ∃ k, k = wN2.heap.size := ⟨_, rfl⟩
              rw [← hk5] at c5N3 hk5lo hk5Q ⊢
              rw [← hk5] at hk45
              have hk5p : k5 ≠ p := by omega
              have HK5 := Lib.hid hk5
              clear hk5
              refine hK.out _ _ cQN3.c (fun _ => ?_)
              clear hK K
              have hk45' : k4 ≠ k5 := fun e => hk45 (by omega)
              refine wpAnyH_only 5 (by kernel_rfl) rfl (fun K hK => ?_)
              have y4 := c4N3.c
              have y4z := c4N3.z
              go_simp
              refine hK.out _ _ (cQN3.other (j := k4) hk4Q.symm _).c (fun _ => ?_)
              clear hK K y4 y4z
              have c4S := c4N3.same (.int .i64 mv)
              have c5S := c5N3.other (j := k4) hk45'.symm (.int .i64 mv)
              have cQS := cQN3.other (j := k4) hk4Q.symm (.int .i64 mv)
              have hbutS := hbutN3.put hk4lo (.int .i64 mv)
              have HPS := Lib.hid (HPN3.out.put hk4p c4N3.n (.int .i64 mv))
              generalize wN3.setCell ⟨k4, 0, none⟩ (.int .i64 mv) = wS at c4S c5S cQS hbutS HPS ⊢
              refine wpAnyH_only 6 (by kernel_rfl) rfl (fun K hK => ?_)
              have y5 := c5S.c
              have y5z := c5S.z
              go_simp
              refine hK.out _ _ (cQS.other (j := k5) hk5Q.symm _).c (fun _ => ?_)
              clear hK K y5 y5z
              have c4T := c4S.other (j := k5) hk45' (.func (.func kf) #[] cpf)
              have c5T := c5S.same (.func (.func kf) #[] cpf)
              have cQT := cQS.other (j := k5) hk5Q.symm (.func (.func kf) #[] cpf)
              have hbutT := hbutS.put hk5lo (.func (.func kf) #[] cpf)
              have HPT := Lib.hid (HPS.out.put hk5p c5S.n (.func (.func kf) #[] cpf))
              generalize wS.setCell ⟨k5, 0, none⟩ (.func (.func kf) #[] cpf) = wT at c4T c5T cQT hbutT HPT ⊢
              refine wpAnyH_done (by kernel_rfl) ?_ _
              have y4 := c4T.c
              have yQ := cQT.c
              have yQz := cQT.z
              by_cases hm0 : mv = 0
              · have hr0 : r = none := by rw [← HR.out, pRel, HO.out]; dsimp only; unfold pMod; rw [HM.out, if_pos rfl, HN.out]; simp [hm0]
                have HR0 := Lib.hid hr0
                subst hm0
                clear hr0
                go_wp2
                refine ⟨rfl, ?_, hbutT⟩
                rw [HR0.out]
              · have hmz : ((mv : Int) == 0) = false := by simp; omega
                have hre : pRel (c :: ([] : List Wd)) = match pManner t3 with
                    | none => none
                    | some ((i, nt), v) => some ((fun x => i (modF F mv x) != nt), v) := by
                  rw [pRel, HO.out]; dsimp only; unfold pMod; rw [HM.out, if_pos rfl, HN.out]; simp only [if_neg hm0]; rfl
                have HRE := Lib.hid hre
                have hm1 : 0 < mv := by omega
                clear hre hm0
                have cU := cQT.same (.func (.func 95) #[] #[.pointer (some ⟨k5, 0, none⟩), .pointer (some ⟨k4, 0, none⟩)])
                have hbutU := hbutT.put (show w.heap.size ≤ Q by have := HQ.out; omega) (.func (.func 95) #[] #[.pointer (some ⟨k5, 0, none⟩), .pointer (some ⟨k4, 0, none⟩)])
                have HPU := Lib.hid (HPT.out.put hQp cQT.n (.func (.func 95) #[] #[.pointer (some ⟨k5, 0, none⟩), .pointer (some ⟨k4, 0, none⟩)]))
                have c4U := c4T.other (j := Q) hk4Q (.func (.func 95) #[] #[.pointer (some ⟨k5, 0, none⟩), .pointer (some ⟨k4, 0, none⟩)])
                have c5U := c5T.other (j := Q) hk5Q (.func (.func 95) #[] #[.pointer (some ⟨k5, 0, none⟩), .pointer (some ⟨k4, 0, none⟩)])
                go_wp2_with fail
                generalize wT.setCell ⟨Q, 0, none⟩ (.func (.func 95) #[] #[.pointer (some ⟨k5, 0, none⟩), .pointer (some ⟨k4, 0, none⟩)]) = wU at cU hbutU HPU c4U c5U ⊢
                have hFU : OpR w.heap.size wU.heap.size wU (.func (.func 95) #[] #[.pointer (some ⟨k5, 0, none⟩), .pointer (some ⟨k4, 0, none⟩)]) (modF F mv) :=
                  ⟨95, _, rfl, fun args w => enters_of Tryz.func95 (by kernel_rfl) rfl args w, fun W hW nv x hx =>
                    rel1_any nv x k5 k4 _ mv F 0 0 W hx hmv hm1 ((hW.cell (p := ⟨k5, 0, none⟩) hk5lo c5U.lt).trans c5U.c) ((hW.cell (p := ⟨k4, 0, none⟩) hk4lo c4U.lt).trans c4U.c) (HFV.out 0 0 W) (Nat.zero_le _)⟩
                have HFU := Lib.hid hFU
                have cQ := cU
                clear hFU y4 yQ yQz
                have HMAN := Lib.hid (manner_p p (t3) wU HPU.out (fun x h => HX.out x (List.mem_cons_of_mem _ (List.mem_of_mem_tail (hsub.mem x h)))) (HT.out.but hbutU) (by have hz1 := hsub.len; have hz2 : (([] : List Wd)).tail.length ≤ (([] : List Wd)).length := (by simp); omega))
                go_wp2_with fail
                refine HMAN.out.mono ?_
                rintro e w7 ⟨hq, hb7⟩
                have hbut7 := hbutU.trans hb7
                have hrr : r = match pManner (t3) with
                    | none => none
                    | some ((i, nt), v) => some ((fun x => i ((modF F mv) x) != nt), v) := by
                  rw [← HR.out]
                  exact HRE.out
                cases hn : pManner (t3) with
                | none =>
                  rw [hn] at hq hrr
                  obtain rfl := hq
                  have HRR := Lib.hid hrr
                  clear hrr hn
                  go_wp2
                  refine ⟨rfl, ?_, hbut7⟩
                  rw [HRR.out]
                | some q =>
                  obtain ⟨⟨Tm, nt⟩, t'⟩ := q
                  rw [hn] at hq hrr
                  obtain ⟨⟨v, rfl, htm⟩, hp7⟩ := hq
                  have HRR := Lib.hid hrr
                  have HTM := Lib.hid htm
                  have HP7 := Lib.hid hp7
                  have cQ7 := cQ.but hb7 hQp
                  have hQ7 := cQ7.lt
                  have HF7 := Lib.hid (OpR.keep (lo' := w.heap.size) (hi' := w7.heap.size) HFU.out (hb7.keep hlt (Nat.le_refl _)) (Nat.le_refl _) hb7.size)
                  obtain ⟨kt, cpt, rfl, _⟩ := htm
                  clear hrr hn hp7
                  go_wp2
                  go_ret
                  have hbA := hbut7.alloc (.cells #[.func (.func kt) #[] cpt] 118)
                  have hbB := hbA.alloc (.cells #[.bool nt] 4)
                  have hsA : (w7.alloc (.cells #[.func (.func kt) #[] cpt] 118)).heap.size = w7.heap.size + 1 := by simp
                  have hsB : ((w7.alloc (.cells #[.func (.func kt) #[] cpt] 118)).alloc (.cells #[.bool nt] 4)).heap.size = w7.heap.size + 2 := by simp
                  have hbAB : Below w7.heap.size w7 ((w7.alloc (.cells #[.func (.func kt) #[] cpt] 118)).alloc (.cells #[.bool nt] 4)) := ((Below.refl _ _).alloc (Nat.le_refl _) _).alloc (by simp) _
                  refine ⟨?_, hbB⟩
                  rw [HRR.out]
                  have hQw := HQ.out
                  have hw7 := hbut7.size
                  refine ⟨⟨_, rfl, 98, _, rfl, fun args w => enters_of Tryz.func98 (by kernel_rfl) rfl args w, fun W hW nv x hx => ?_⟩, HP7.out.below hbAB⟩
                  rw [hsB] at hW
                  have hk7 : KeepR w.heap.size w7.heap.size w7 W := hW.via (keep_below hbAB (Nat.le_refl _) (Nat.le_refl _)) (Nat.le_refl _) (by omega)
                  refine rel2_any nv x _ _ _ _ _ nt Tm ((modF F mv)) w.heap.size w7.heap.size W hx ((hW.cell ?_ ?_).trans ?_) ((hk7.cell ?_ hQ7).trans cQ7.c) ((hW.cell ?_ ?_).trans ?_) (HTM.out.keep (hk7.via (keep_refl (Nat.le_refl _)) (by have := hbutU.size; omega) (Nat.le_refl _)) (by have := hbutU.size; omega) (Nat.le_refl _)) (HF7.out.keep hk7 (Nat.le_refl _) (Nat.le_refl _)) hk7.1
                  all_goals first | (show w.heap.size ≤ w7.heap.size; omega) | (show w7.heap.size < w7.heap.size + 2; omega) | (show w.heap.size ≤ w7.heap.size + 1; omega) | (show w7.heap.size + 1 < w7.heap.size + 2; omega) | (show w.heap.size ≤ Q; omega) | (go_simp; done)
            · skip
              go_simp
              have FA : ∃ N, N = wN1.alloc (.cells #[.nilFunc] 179) ∧ But p wN1 N ∧ CellV N wN1.heap.size .nilFunc := ⟨_, rfl, (But.refl _ _).alloc _, CellV.made _ _ _ (by decide)⟩
              obtain ⟨wN2, hW, hbN2, c5N2⟩ := FA
              have hwW : ∀ o, o = Value.pointer (some ⟨wN1.heap.size, 0, none⟩) → o = o := fun _ _ => rfl
              rw [← hW]
              have HPN2 := Lib.hid (HPN1.out.below (show Below wN1.heap.size wN1 wN2 by rw [hW]; exact (Below.refl _ _).alloc (Nat.le_refl _) _))
              have hbutN2 := hbutN1.trans hbN2
              have cQN2 := cQN1.but hbN2 hQp
              have hk5lo : w.heap.size ≤ wN1.heap.size := hbutN1.size
              have hk5Q : wN1.heap.size ≠ Q := fun e => by have := cQN1.lt; omega
              clear hW hwW
              obtain ⟨k5, hk5⟩ : ∃ k, k = wN1.heap.size := ⟨_, rfl⟩
              rw [← hk5] at c5N2 hk5lo hk5Q ⊢
              have hk5p : k5 ≠ p := by omega
              have HK5 := Lib.hid hk5
              clear hk5
              refine hK.out _ _ cQN2.c (fun _ => ?_)
              clear hK K
              refine wpAnyH_only 3 (by kernel_rfl) rfl (fun K hK => ?_)
              go_simp
              have FA : ∃ N, N = wN2.alloc (.cells #[(.int .i64 0)] 3) ∧ But p wN2 N ∧ CellV N wN2.heap.size (.int .i64 0) := ⟨_, rfl, (But.refl _ _).alloc _, CellV.made _ _ _ (by decide)⟩
              obtain ⟨wN3, hW, hbN3, c4N3⟩ := FA
              have hwW : ∀ o, o = Value.pointer (some ⟨wN2.heap.size, 0, none⟩) → o = o := fun _ _ => rfl
              rw [← hW]
              have HPN3 := Lib.hid (HPN2.out.below (show Below wN2.heap.size wN2 wN3 by rw [hW]; exact (Below.refl _ _).alloc (Nat.le_refl _) _))
              have hbutN3 := hbutN2.trans hbN3
              have cQN3 := cQN2.but hbN3 hQp
              have hk4lo : w.heap.size ≤ wN2.heap.size := hbutN2.size
              have hk4Q : wN2.heap.size ≠ Q := fun e => by have := cQN2.lt; omega
              clear hW hwW
              have c5N3 := c5N2.but hbN3 hk5p
              have hk45 : wN2.heap.size ≠ k5 := fun e => by have := c5N2.lt; omega
              obtain ⟨k4, hk4⟩ : ∃ k, k = wN2.heap.size := ⟨_, rfl⟩
              rw [← hk4] at c4N3 hk4lo hk4Q ⊢
              rw [← hk4] at hk45
              have hk4p : k4 ≠ p := by omega
              have HK4 := Lib.hid hk4
              clear hk4
              refine hK.out _ _ cQN3.c (fun _ => ?_)
              clear hK K
              have hk45' : k4 ≠ k5 := fun e => hk45 (by omega)
              refine wpAnyH_only 5 (by kernel_rfl) rfl (fun K hK => ?_)
              have y4 := c4N3.c
              have y4z := c4N3.z
              go_simp
              refine hK.out _ _ (cQN3.other (j := k4) hk4Q.symm _).c (fun _ => ?_)
              clear hK K y4 y4z
              have c4S := c4N3.same (.int .i64 mv)
              have c5S := c5N3.other (j := k4) hk45'.symm (.int .i64 mv)
              have cQS := cQN3.other (j := k4) hk4Q.symm (.int .i64 mv)
              have hbutS := hbutN3.put hk4lo (.int .i64 mv)
              have HPS := Lib.hid (HPN3.out.put hk4p c4N3.n (.int .i64 mv))
              generalize wN3.setCell ⟨k4, 0, none⟩ (.int .i64 mv) = wS at c4S c5S cQS hbutS HPS ⊢
              refine wpAnyH_only 6 (by kernel_rfl) rfl (fun K hK => ?_)
              have y5 := c5S.c
              have y5z := c5S.z
              go_simp
              refine hK.out _ _ (cQS.other (j := k5) hk5Q.symm _).c (fun _ => ?_)
              clear hK K y5 y5z
              have c4T := c4S.other (j := k5) hk45' (.func (.func kf) #[] cpf)
              have c5T := c5S.same (.func (.func kf) #[] cpf)
              have cQT := cQS.other (j := k5) hk5Q.symm (.func (.func kf) #[] cpf)
              have hbutT := hbutS.put hk5lo (.func (.func kf) #[] cpf)
              have HPT := Lib.hid (HPS.out.put hk5p c5S.n (.func (.func kf) #[] cpf))
              generalize wS.setCell ⟨k5, 0, none⟩ (.func (.func kf) #[] cpf) = wT at c4T c5T cQT hbutT HPT ⊢
              refine wpAnyH_done (by kernel_rfl) ?_ _
              have y4 := c4T.c
              have yQ := cQT.c
              have yQz := cQT.z
              by_cases hm0 : mv = 0
              · have hr0 : r = none := by rw [← HR.out, pRel, HO.out]; dsimp only; unfold pMod; rw [HM.out, if_pos rfl, HN.out]; simp [hm0]
                have HR0 := Lib.hid hr0
                subst hm0
                clear hr0
                go_wp2
                refine ⟨rfl, ?_, hbutT⟩
                rw [HR0.out]
              · have hmz : ((mv : Int) == 0) = false := by simp; omega
                have hre : pRel (c :: ([] : List Wd)) = match pManner t3 with
                    | none => none
                    | some ((i, nt), v) => some ((fun x => i (modF F mv x) != nt), v) := by
                  rw [pRel, HO.out]; dsimp only; unfold pMod; rw [HM.out, if_pos rfl, HN.out]; simp only [if_neg hm0]; rfl
                have HRE := Lib.hid hre
                have hm1 : 0 < mv := by omega
                clear hre hm0
                have cU := cQT.same (.func (.func 95) #[] #[.pointer (some ⟨k5, 0, none⟩), .pointer (some ⟨k4, 0, none⟩)])
                have hbutU := hbutT.put (show w.heap.size ≤ Q by have := HQ.out; omega) (.func (.func 95) #[] #[.pointer (some ⟨k5, 0, none⟩), .pointer (some ⟨k4, 0, none⟩)])
                have HPU := Lib.hid (HPT.out.put hQp cQT.n (.func (.func 95) #[] #[.pointer (some ⟨k5, 0, none⟩), .pointer (some ⟨k4, 0, none⟩)]))
                have c4U := c4T.other (j := Q) hk4Q (.func (.func 95) #[] #[.pointer (some ⟨k5, 0, none⟩), .pointer (some ⟨k4, 0, none⟩)])
                have c5U := c5T.other (j := Q) hk5Q (.func (.func 95) #[] #[.pointer (some ⟨k5, 0, none⟩), .pointer (some ⟨k4, 0, none⟩)])
                go_wp2_with fail
                generalize wT.setCell ⟨Q, 0, none⟩ (.func (.func 95) #[] #[.pointer (some ⟨k5, 0, none⟩), .pointer (some ⟨k4, 0, none⟩)]) = wU at cU hbutU HPU c4U c5U ⊢
                have hFU : OpR w.heap.size wU.heap.size wU (.func (.func 95) #[] #[.pointer (some ⟨k5, 0, none⟩), .pointer (some ⟨k4, 0, none⟩)]) (modF F mv) :=
                  ⟨95, _, rfl, fun args w => enters_of Tryz.func95 (by kernel_rfl) rfl args w, fun W hW nv x hx =>
                    rel1_any nv x k5 k4 _ mv F 0 0 W hx hmv hm1 ((hW.cell (p := ⟨k5, 0, none⟩) hk5lo c5U.lt).trans c5U.c) ((hW.cell (p := ⟨k4, 0, none⟩) hk4lo c4U.lt).trans c4U.c) (HFV.out 0 0 W) (Nat.zero_le _)⟩
                have HFU := Lib.hid hFU
                have cQ := cU
                clear hFU y4 yQ yQz
                have HMAN := Lib.hid (manner_p p (t3) wU HPU.out (fun x h => HX.out x (List.mem_cons_of_mem _ (List.mem_of_mem_tail (hsub.mem x h)))) (HT.out.but hbutU) (by have hz1 := hsub.len; have hz2 : (([] : List Wd)).tail.length ≤ (([] : List Wd)).length := (by simp); omega))
                go_wp2_with fail
                refine HMAN.out.mono ?_
                rintro e w7 ⟨hq, hb7⟩
                have hbut7 := hbutU.trans hb7
                have hrr : r = match pManner (t3) with
                    | none => none
                    | some ((i, nt), v) => some ((fun x => i ((modF F mv) x) != nt), v) := by
                  rw [← HR.out]
                  exact HRE.out
                cases hn : pManner (t3) with
                | none =>
                  rw [hn] at hq hrr
                  obtain rfl := hq
                  have HRR := Lib.hid hrr
                  clear hrr hn
                  go_wp2
                  refine ⟨rfl, ?_, hbut7⟩
                  rw [HRR.out]
                | some q =>
                  obtain ⟨⟨Tm, nt⟩, t'⟩ := q
                  rw [hn] at hq hrr
                  obtain ⟨⟨v, rfl, htm⟩, hp7⟩ := hq
                  have HRR := Lib.hid hrr
                  have HTM := Lib.hid htm
                  have HP7 := Lib.hid hp7
                  have cQ7 := cQ.but hb7 hQp
                  have hQ7 := cQ7.lt
                  have HF7 := Lib.hid (OpR.keep (lo' := w.heap.size) (hi' := w7.heap.size) HFU.out (hb7.keep hlt (Nat.le_refl _)) (Nat.le_refl _) hb7.size)
                  obtain ⟨kt, cpt, rfl, _⟩ := htm
                  clear hrr hn hp7
                  go_wp2
                  go_ret
                  have hbA := hbut7.alloc (.cells #[.func (.func kt) #[] cpt] 118)
                  have hbB := hbA.alloc (.cells #[.bool nt] 4)
                  have hsA : (w7.alloc (.cells #[.func (.func kt) #[] cpt] 118)).heap.size = w7.heap.size + 1 := by simp
                  have hsB : ((w7.alloc (.cells #[.func (.func kt) #[] cpt] 118)).alloc (.cells #[.bool nt] 4)).heap.size = w7.heap.size + 2 := by simp
                  have hbAB : Below w7.heap.size w7 ((w7.alloc (.cells #[.func (.func kt) #[] cpt] 118)).alloc (.cells #[.bool nt] 4)) := ((Below.refl _ _).alloc (Nat.le_refl _) _).alloc (by simp) _
                  refine ⟨?_, hbB⟩
                  rw [HRR.out]
                  have hQw := HQ.out
                  have hw7 := hbut7.size
                  refine ⟨⟨_, rfl, 98, _, rfl, fun args w => enters_of Tryz.func98 (by kernel_rfl) rfl args w, fun W hW nv x hx => ?_⟩, HP7.out.below hbAB⟩
                  rw [hsB] at hW
                  have hk7 : KeepR w.heap.size w7.heap.size w7 W := hW.via (keep_below hbAB (Nat.le_refl _) (Nat.le_refl _)) (Nat.le_refl _) (by omega)
                  refine rel2_any nv x _ _ _ _ _ nt Tm ((modF F mv)) w.heap.size w7.heap.size W hx ((hW.cell ?_ ?_).trans ?_) ((hk7.cell ?_ hQ7).trans cQ7.c) ((hW.cell ?_ ?_).trans ?_) (HTM.out.keep (hk7.via (keep_refl (Nat.le_refl _)) (by have := hbutU.size; omega) (Nat.le_refl _)) (by have := hbutU.size; omega) (Nat.le_refl _)) (HF7.out.keep hk7 (Nat.le_refl _) (Nat.le_refl _)) hk7.1
                  all_goals first | (show w.heap.size ≤ w7.heap.size; omega) | (show w7.heap.size < w7.heap.size + 2; omega) | (show w.heap.size ≤ w7.heap.size + 1; omega) | (show w7.heap.size + 1 < w7.heap.size + 2; omega) | (show w.heap.size ≤ Q; omega) | (go_simp; done)
          · skip
            go_simp
            have FA : ∃ N, N = wD.alloc (.cells #[(.int .i64 0)] 3) ∧ But p wD N ∧ CellV N wD.heap.size (.int .i64 0) := ⟨_, rfl, (But.refl _ _).alloc _, CellV.made _ _ _ (by decide)⟩
            obtain ⟨wN1, hW, hbN1, c4N1⟩ := FA
            have hwW : ∀ o, o = Value.pointer (some ⟨wD.heap.size, 0, none⟩) → o = o := fun _ _ => rfl
            rw [← hW]
            have HPN1 := Lib.hid (HPD.out.below (show Below wD.heap.size wD wN1 by rw [hW]; exact (Below.refl _ _).alloc (Nat.le_refl _) _))
            have hbutN1 := hbutD.trans hbN1
            have cQN1 := cQD.but hbN1 hQp
            have hk4lo : w.heap.size ≤ wD.heap.size := hbutD.size
            have hk4Q : wD.heap.size ≠ Q := fun e => by have := cQD.lt; omega
            clear hW hwW
            obtain ⟨k4, hk4⟩ : ∃ k, k = wD.heap.size := ⟨_, rfl⟩
            rw [← hk4] at c4N1 hk4lo hk4Q ⊢
            have hk4p : k4 ≠ p := by omega
            have HK4 := Lib.hid hk4
            clear hk4
            refine hK.out _ _ cQN1.c (fun _ => ?_)
            clear hK K
            refine wpAnyH_ready (rs := [1, 4]) (by kernel_rfl) (by simp) (AllReadyH.cons rfl (fun K hK => ?_) (AllReadyH.cons rfl (fun K hK => ?_) AllReadyH.nil))
            · skip
              go_simp
              refine (HNUM.out wN1 hbutN1 HPN1.out).mono ?_
              rintro e wN2 ⟨hq, hbN2⟩
              rw [HN.out] at hq
              obtain ⟨rfl, hpc⟩ := hq
              have HPN2 := Lib.hid hpc
              have hbutN2 := hbutN1.trans hbN2
              have cQN2 := cQN1.but hbN2 hQp
              have c4N2 := c4N1.but hbN2 hk4p
              clear hpc
              refine hK.out _ _ cQN2.c (fun _ => ?_)
              clear hK K
              refine wpAnyH_only 4 (by kernel_rfl) rfl (fun K hK => ?_)
              go_simp
              have FA : ∃ N, N = wN2.alloc (.cells #[.nilFunc] 179) ∧ But p wN2 N ∧ CellV N wN2.heap.size .nilFunc := ⟨_, rfl, (But.refl _ _).alloc _, CellV.made _ _ _ (by decide)⟩
              obtain ⟨wN3, hW, hbN3, c5N3⟩ := FA
              have hwW : ∀ o, o = Value.pointer (some ⟨wN2.heap.size, 0, none⟩) → o = o := fun _ _ => rfl
              rw [← hW]
              have HPN3 := Lib.hid (HPN2.out.below (show Below wN2.heap.size wN2 wN3 by rw [hW]; exact (Below.refl _ _).alloc (Nat.le_refl _) _))
              have hbutN3 := hbutN2.trans hbN3
              have cQN3 := cQN2.but hbN3 hQp
              have hk5lo : w.heap.size ≤ wN2.heap.size := hbutN2.size
              have hk5Q : wN2.heap.size ≠ Q := fun e => by have := cQN2.lt; omega
              clear hW hwW
              have c4N3 := c4N2.but hbN3 hk4p
              have hk45 : wN2.heap.size ≠ k4 := fun e => by have := c4N2.lt; omega
              obtain ⟨k5, hk5⟩ : ∃ k, k = wN2.heap.size := ⟨_, rfl⟩
              rw [← hk5] at c5N3 hk5lo hk5Q ⊢
              rw [← hk5] at hk45
              have hk5p : k5 ≠ p := by omega
              have HK5 := Lib.hid hk5
              clear hk5
              refine hK.out _ _ cQN3.c (fun _ => ?_)
              clear hK K
              have hk45' : k4 ≠ k5 := fun e => hk45 (by omega)
              refine wpAnyH_only 5 (by kernel_rfl) rfl (fun K hK => ?_)
              have y4 := c4N3.c
              have y4z := c4N3.z
              go_simp
              refine hK.out _ _ (cQN3.other (j := k4) hk4Q.symm _).c (fun _ => ?_)
              clear hK K y4 y4z
              have c4S := c4N3.same (.int .i64 mv)
              have c5S := c5N3.other (j := k4) hk45'.symm (.int .i64 mv)
              have cQS := cQN3.other (j := k4) hk4Q.symm (.int .i64 mv)
              have hbutS := hbutN3.put hk4lo (.int .i64 mv)
              have HPS := Lib.hid (HPN3.out.put hk4p c4N3.n (.int .i64 mv))
              generalize wN3.setCell ⟨k4, 0, none⟩ (.int .i64 mv) = wS at c4S c5S cQS hbutS HPS ⊢
              refine wpAnyH_only 6 (by kernel_rfl) rfl (fun K hK => ?_)
              have y5 := c5S.c
              have y5z := c5S.z
              go_simp
              refine hK.out _ _ (cQS.other (j := k5) hk5Q.symm _).c (fun _ => ?_)
              clear hK K y5 y5z
              have c4T := c4S.other (j := k5) hk45' (.func (.func kf) #[] cpf)
              have c5T := c5S.same (.func (.func kf) #[] cpf)
              have cQT := cQS.other (j := k5) hk5Q.symm (.func (.func kf) #[] cpf)
              have hbutT := hbutS.put hk5lo (.func (.func kf) #[] cpf)
              have HPT := Lib.hid (HPS.out.put hk5p c5S.n (.func (.func kf) #[] cpf))
              generalize wS.setCell ⟨k5, 0, none⟩ (.func (.func kf) #[] cpf) = wT at c4T c5T cQT hbutT HPT ⊢
              refine wpAnyH_done (by kernel_rfl) ?_ _
              have y4 := c4T.c
              have yQ := cQT.c
              have yQz := cQT.z
              by_cases hm0 : mv = 0
              · have hr0 : r = none := by rw [← HR.out, pRel, HO.out]; dsimp only; unfold pMod; rw [HM.out, if_pos rfl, HN.out]; simp [hm0]
                have HR0 := Lib.hid hr0
                subst hm0
                clear hr0
                go_wp2
                refine ⟨rfl, ?_, hbutT⟩
                rw [HR0.out]
              · have hmz : ((mv : Int) == 0) = false := by simp; omega
                have hre : pRel (c :: ([] : List Wd)) = match pManner t3 with
                    | none => none
                    | some ((i, nt), v) => some ((fun x => i (modF F mv x) != nt), v) := by
                  rw [pRel, HO.out]; dsimp only; unfold pMod; rw [HM.out, if_pos rfl, HN.out]; simp only [if_neg hm0]; rfl
                have HRE := Lib.hid hre
                have hm1 : 0 < mv := by omega
                clear hre hm0
                have cU := cQT.same (.func (.func 95) #[] #[.pointer (some ⟨k5, 0, none⟩), .pointer (some ⟨k4, 0, none⟩)])
                have hbutU := hbutT.put (show w.heap.size ≤ Q by have := HQ.out; omega) (.func (.func 95) #[] #[.pointer (some ⟨k5, 0, none⟩), .pointer (some ⟨k4, 0, none⟩)])
                have HPU := Lib.hid (HPT.out.put hQp cQT.n (.func (.func 95) #[] #[.pointer (some ⟨k5, 0, none⟩), .pointer (some ⟨k4, 0, none⟩)]))
                have c4U := c4T.other (j := Q) hk4Q (.func (.func 95) #[] #[.pointer (some ⟨k5, 0, none⟩), .pointer (some ⟨k4, 0, none⟩)])
                have c5U := c5T.other (j := Q) hk5Q (.func (.func 95) #[] #[.pointer (some ⟨k5, 0, none⟩), .pointer (some ⟨k4, 0, none⟩)])
                go_wp2_with fail
                generalize wT.setCell ⟨Q, 0, none⟩ (.func (.func 95) #[] #[.pointer (some ⟨k5, 0, none⟩), .pointer (some ⟨k4, 0, none⟩)]) = wU at cU hbutU HPU c4U c5U ⊢
                have hFU : OpR w.heap.size wU.heap.size wU (.func (.func 95) #[] #[.pointer (some ⟨k5, 0, none⟩), .pointer (some ⟨k4, 0, none⟩)]) (modF F mv) :=
                  ⟨95, _, rfl, fun args w => enters_of Tryz.func95 (by kernel_rfl) rfl args w, fun W hW nv x hx =>
                    rel1_any nv x k5 k4 _ mv F 0 0 W hx hmv hm1 ((hW.cell (p := ⟨k5, 0, none⟩) hk5lo c5U.lt).trans c5U.c) ((hW.cell (p := ⟨k4, 0, none⟩) hk4lo c4U.lt).trans c4U.c) (HFV.out 0 0 W) (Nat.zero_le _)⟩
                have HFU := Lib.hid hFU
                have cQ := cU
                clear hFU y4 yQ yQz
                have HMAN := Lib.hid (manner_p p (t3) wU HPU.out (fun x h => HX.out x (List.mem_cons_of_mem _ (List.mem_of_mem_tail (hsub.mem x h)))) (HT.out.but hbutU) (by have hz1 := hsub.len; have hz2 : (([] : List Wd)).tail.length ≤ (([] : List Wd)).length := (by simp); omega))
                go_wp2_with fail
                refine HMAN.out.mono ?_
                rintro e w7 ⟨hq, hb7⟩
                have hbut7 := hbutU.trans hb7
                have hrr : r = match pManner (t3) with
                    | none => none
                    | some ((i, nt), v) => some ((fun x => i ((modF F mv) x) != nt), v) := by
                  rw [← HR.out]
                  exact HRE.out
                cases hn : pManner (t3) with
                | none =>
                  rw [hn] at hq hrr
                  obtain rfl := hq
                  have HRR := Lib.hid hrr
                  clear hrr hn
                  go_wp2
                  refine ⟨rfl, ?_, hbut7⟩
                  rw [HRR.out]
                | some q =>
                  obtain ⟨⟨Tm, nt⟩, t'⟩ := q
                  rw [hn] at hq hrr
                  obtain ⟨⟨v, rfl, htm⟩, hp7⟩ := hq
                  have HRR := Lib.hid hrr
                  have HTM := Lib.hid htm
                  have HP7 := Lib.hid hp7
                  have cQ7 := cQ.but hb7 hQp
                  have hQ7 := cQ7.lt
                  have HF7 := Lib.hid (OpR.keep (lo' := w.heap.size) (hi' := w7.heap.size) HFU.out (hb7.keep hlt (Nat.le_refl _)) (Nat.le_refl _) hb7.size)
                  obtain ⟨kt, cpt, rfl, _⟩ := htm
                  clear hrr hn hp7
                  go_wp2
                  go_ret
                  have hbA := hbut7.alloc (.cells #[.func (.func kt) #[] cpt] 118)
                  have hbB := hbA.alloc (.cells #[.bool nt] 4)
                  have hsA : (w7.alloc (.cells #[.func (.func kt) #[] cpt] 118)).heap.size = w7.heap.size + 1 := by simp
                  have hsB : ((w7.alloc (.cells #[.func (.func kt) #[] cpt] 118)).alloc (.cells #[.bool nt] 4)).heap.size = w7.heap.size + 2 := by simp
                  have hbAB : Below w7.heap.size w7 ((w7.alloc (.cells #[.func (.func kt) #[] cpt] 118)).alloc (.cells #[.bool nt] 4)) := ((Below.refl _ _).alloc (Nat.le_refl _) _).alloc (by simp) _
                  refine ⟨?_, hbB⟩
                  rw [HRR.out]
                  have hQw := HQ.out
                  have hw7 := hbut7.size
                  refine ⟨⟨_, rfl, 98, _, rfl, fun args w => enters_of Tryz.func98 (by kernel_rfl) rfl args w, fun W hW nv x hx => ?_⟩, HP7.out.below hbAB⟩
                  rw [hsB] at hW
                  have hk7 : KeepR w.heap.size w7.heap.size w7 W := hW.via (keep_below hbAB (Nat.le_refl _) (Nat.le_refl _)) (Nat.le_refl _) (by omega)
                  refine rel2_any nv x _ _ _ _ _ nt Tm ((modF F mv)) w.heap.size w7.heap.size W hx ((hW.cell ?_ ?_).trans ?_) ((hk7.cell ?_ hQ7).trans cQ7.c) ((hW.cell ?_ ?_).trans ?_) (HTM.out.keep (hk7.via (keep_refl (Nat.le_refl _)) (by have := hbutU.size; omega) (Nat.le_refl _)) (by have := hbutU.size; omega) (Nat.le_refl _)) (HF7.out.keep hk7 (Nat.le_refl _) (Nat.le_refl _)) hk7.1
                  all_goals first | (show w.heap.size ≤ w7.heap.size; omega) | (show w7.heap.size < w7.heap.size + 2; omega) | (show w.heap.size ≤ w7.heap.size + 1; omega) | (show w7.heap.size + 1 < w7.heap.size + 2; omega) | (show w.heap.size ≤ Q; omega) | (go_simp; done)
            · skip
              go_simp
              have FA : ∃ N, N = wN1.alloc (.cells #[.nilFunc] 179) ∧ But p wN1 N ∧ CellV N wN1.heap.size .nilFunc := ⟨_, rfl, (But.refl _ _).alloc _, CellV.made _ _ _ (by decide)⟩
              obtain ⟨wN2, hW, hbN2, c5N2⟩ := FA
              have hwW : ∀ o, o = Value.pointer (some ⟨wN1.heap.size, 0, none⟩) → o = o := fun _ _ => rfl
              rw [← hW]
              have HPN2 := Lib.hid (HPN1.out.below (show Below wN1.heap.size wN1 wN2 by rw [hW]; exact (Below.refl _ _).alloc (Nat.le_refl _) _))
              have hbutN2 := hbutN1.trans hbN2
              have cQN2 := cQN1.but hbN2 hQp
              have hk5lo : w.heap.size ≤ wN1.heap.size := hbutN1.size
              have hk5Q : wN1.heap.size ≠ Q := fun e => by have := cQN1.lt; omega
              clear hW hwW
              have c4N2 := c4N1.but hbN2 hk4p
              have hk45 : wN1.heap.size ≠ k4 := fun e => by have := c4N1.lt; omega
              obtain ⟨k5, hk5⟩ : ∃ k, k = wN1.heap.size := ⟨_, rfl⟩
              rw [← hk5] at c5N2 hk5lo hk5Q ⊢
              rw [← hk5] at hk45
              have hk5p : k5 ≠ p := by omega
              have HK5 := Lib.hid hk5
              clear hk5
              refine hK.out _ _ cQN2.c (fun _ => ?_)
              clear hK K
              refine wpAnyH_only 1 (by kernel_rfl) rfl (fun K hK => ?_)
              go_simp
              refine (HNUM.out wN2 hbutN2 HPN2.out).mono ?_
              rintro e wN3 ⟨hq, hbN3⟩
              rw [HN.out] at hq
              obtain ⟨rfl, hpc⟩ := hq
              have HPN3 := Lib.hid hpc
              have hbutN3 := hbutN2.trans hbN3
              have cQN3 := cQN2.but hbN3 hQp
              have c4N3 := c4N2.but hbN3 hk4p
              have c5N3 := c5N2.but hbN3 hk5p
              clear hpc
              refine hK.out _ _ cQN3.c (fun _ => ?_)
              clear hK K
              have hk45' : k4 ≠ k5 := fun e => hk45 (by omega)
              refine wpAnyH_only 5 (by kernel_rfl) rfl (fun K hK => ?_)
              have y4 := c4N3.c
              have y4z := c4N3.z
              go_simp
              refine hK.out _ _ (cQN3.other (j := k4) hk4Q.symm _).c (fun _ => ?_)
              clear hK K y4 y4z
              have c4S := c4N3.same (.int .i64 mv)
              have c5S := c5N3.other (j := k4) hk45'.symm (.int .i64 mv)
              have cQS := cQN3.other (j := k4) hk4Q.symm (.int .i64 mv)
              have hbutS := hbutN3.put hk4lo (.int .i64 mv)
              have HPS := Lib.hid (HPN3.out.put hk4p c4N3.n (.int .i64 mv))
              generalize wN3.setCell ⟨k4, 0, none⟩ (.int .i64 mv) = wS at c4S c5S cQS hbutS HPS ⊢
              refine wpAnyH_only 6 (by kernel_rfl) rfl (fun K hK => ?_)
              have y5 := c5S.c
              have y5z := c5S.z
              go_simp
              refine hK.out _ _ (cQS.other (j := k5) hk5Q.symm _).c (fun _ => ?_)
              clear hK K y5 y5z
              have c4T := c4S.other (j := k5) hk45' (.func (.func kf) #[] cpf)
              have c5T := c5S.same (.func (.func kf) #[] cpf)
              have cQT := cQS.other (j := k5) hk5Q.symm (.func (.func kf) #[] cpf)
              have hbutT := hbutS.put hk5lo (.func (.func kf) #[] cpf)
              have HPT := Lib.hid (HPS.out.put hk5p c5S.n (.func (.func kf) #[] cpf))
              generalize wS.setCell ⟨k5, 0, none⟩ (.func (.func kf) #[] cpf) = wT at c4T c5T cQT hbutT HPT ⊢
              refine wpAnyH_done (by kernel_rfl) ?_ _
              have y4 := c4T.c
              have yQ := cQT.c
              have yQz := cQT.z
              by_cases hm0 : mv = 0
              · have hr0 : r = none := by rw [← HR.out, pRel, HO.out]; dsimp only; unfold pMod; rw [HM.out, if_pos rfl, HN.out]; simp [hm0]
                have HR0 := Lib.hid hr0
                subst hm0
                clear hr0
                go_wp2
                refine ⟨rfl, ?_, hbutT⟩
                rw [HR0.out]
              · have hmz : ((mv : Int) == 0) = false := by simp; omega
                have hre : pRel (c :: ([] : List Wd)) = match pManner t3 with
                    | none => none
                    | some ((i, nt), v) => some ((fun x => i (modF F mv x) != nt), v) := by
                  rw [pRel, HO.out]; dsimp only; unfold pMod; rw [HM.out, if_pos rfl, HN.out]; simp only [if_neg hm0]; rfl
                have HRE := Lib.hid hre
                have hm1 : 0 < mv := by omega
                clear hre hm0
                have cU := cQT.same (.func (.func 95) #[] #[.pointer (some ⟨k5, 0, none⟩), .pointer (some ⟨k4, 0, none⟩)])
                have hbutU := hbutT.put (show w.heap.size ≤ Q by have := HQ.out; omega) (.func (.func 95) #[] #[.pointer (some ⟨k5, 0, none⟩), .pointer (some ⟨k4, 0, none⟩)])
                have HPU := Lib.hid (HPT.out.put hQp cQT.n (.func (.func 95) #[] #[.pointer (some ⟨k5, 0, none⟩), .pointer (some ⟨k4, 0, none⟩)]))
                have c4U := c4T.other (j := Q) hk4Q (.func (.func 95) #[] #[.pointer (some ⟨k5, 0, none⟩), .pointer (some ⟨k4, 0, none⟩)])
                have c5U := c5T.other (j := Q) hk5Q (.func (.func 95) #[] #[.pointer (some ⟨k5, 0, none⟩), .pointer (some ⟨k4, 0, none⟩)])
                go_wp2_with fail
                generalize wT.setCell ⟨Q, 0, none⟩ (.func (.func 95) #[] #[.pointer (some ⟨k5, 0, none⟩), .pointer (some ⟨k4, 0, none⟩)]) = wU at cU hbutU HPU c4U c5U ⊢
                have hFU : OpR w.heap.size wU.heap.size wU (.func (.func 95) #[] #[.pointer (some ⟨k5, 0, none⟩), .pointer (some ⟨k4, 0, none⟩)]) (modF F mv) :=
                  ⟨95, _, rfl, fun args w => enters_of Tryz.func95 (by kernel_rfl) rfl args w, fun W hW nv x hx =>
                    rel1_any nv x k5 k4 _ mv F 0 0 W hx hmv hm1 ((hW.cell (p := ⟨k5, 0, none⟩) hk5lo c5U.lt).trans c5U.c) ((hW.cell (p := ⟨k4, 0, none⟩) hk4lo c4U.lt).trans c4U.c) (HFV.out 0 0 W) (Nat.zero_le _)⟩
                have HFU := Lib.hid hFU
                have cQ := cU
                clear hFU y4 yQ yQz
                have HMAN := Lib.hid (manner_p p (t3) wU HPU.out (fun x h => HX.out x (List.mem_cons_of_mem _ (List.mem_of_mem_tail (hsub.mem x h)))) (HT.out.but hbutU) (by have hz1 := hsub.len; have hz2 : (([] : List Wd)).tail.length ≤ (([] : List Wd)).length := (by simp); omega))
                go_wp2_with fail
                refine HMAN.out.mono ?_
                rintro e w7 ⟨hq, hb7⟩
                have hbut7 := hbutU.trans hb7
                have hrr : r = match pManner (t3) with
                    | none => none
                    | some ((i, nt), v) => some ((fun x => i ((modF F mv) x) != nt), v) := by
                  rw [← HR.out]
                  exact HRE.out
                cases hn : pManner (t3) with
                | none =>
                  rw [hn] at hq hrr
                  obtain rfl := hq
                  have HRR := Lib.hid hrr
                  clear hrr hn
                  go_wp2
                  refine ⟨rfl, ?_, hbut7⟩
                  rw [HRR.out]
                | some q =>
                  obtain ⟨⟨Tm, nt⟩, t'⟩ := q
                  rw [hn] at hq hrr
                  obtain ⟨⟨v, rfl, htm⟩, hp7⟩ := hq
                  have HRR := Lib.hid hrr
                  have HTM := Lib.hid htm
                  have HP7 := Lib.hid hp7
                  have cQ7 := cQ.but hb7 hQp
                  have hQ7 := cQ7.lt
                  have HF7 := Lib.hid (OpR.keep (lo' := w.heap.size) (hi' := w7.heap.size) HFU.out (hb7.keep hlt (Nat.le_refl _)) (Nat.le_refl _) hb7.size)
                  obtain ⟨kt, cpt, rfl, _⟩ := htm
                  clear hrr hn hp7
                  go_wp2
                  go_ret
                  have hbA := hbut7.alloc (.cells #[.func (.func kt) #[] cpt] 118)
                  have hbB := hbA.alloc (.cells #[.bool nt] 4)
                  have hsA : (w7.alloc (.cells #[.func (.func kt) #[] cpt] 118)).heap.size = w7.heap.size + 1 := by simp
                  have hsB : ((w7.alloc (.cells #[.func (.func kt) #[] cpt] 118)).alloc (.cells #[.bool nt] 4)).heap.size = w7.heap.size + 2 := by simp
                  have hbAB : Below w7.heap.size w7 ((w7.alloc (.cells #[.func (.func kt) #[] cpt] 118)).alloc (.cells #[.bool nt] 4)) := ((Below.refl _ _).alloc (Nat.le_refl _) _).alloc (by simp) _
                  refine ⟨?_, hbB⟩
                  rw [HRR.out]
                  have hQw := HQ.out
                  have hw7 := hbut7.size
                  refine ⟨⟨_, rfl, 98, _, rfl, fun args w => enters_of Tryz.func98 (by kernel_rfl) rfl args w, fun W hW nv x hx => ?_⟩, HP7.out.below hbAB⟩
                  rw [hsB] at hW
                  have hk7 : KeepR w.heap.size w7.heap.size w7 W := hW.via (keep_below hbAB (Nat.le_refl _) (Nat.le_refl _)) (Nat.le_refl _) (by omega)
                  refine rel2_any nv x _ _ _ _ _ nt Tm ((modF F mv)) w.heap.size w7.heap.size W hx ((hW.cell ?_ ?_).trans ?_) ((hk7.cell ?_ hQ7).trans cQ7.c) ((hW.cell ?_ ?_).trans ?_) (HTM.out.keep (hk7.via (keep_refl (Nat.le_refl _)) (by have := hbutU.size; omega) (Nat.le_refl _)) (by have := hbutU.size; omega) (Nat.le_refl _)) (HF7.out.keep hk7 (Nat.le_refl _) (Nat.le_refl _)) hk7.1
                  all_goals first | (show w.heap.size ≤ w7.heap.size; omega) | (show w7.heap.size < w7.heap.size + 2; omega) | (show w.heap.size ≤ w7.heap.size + 1; omega) | (show w7.heap.size + 1 < w7.heap.size + 2; omega) | (show w.heap.size ≤ Q; omega) | (go_simp; done)
          · skip
            go_simp
            have FA : ∃ N, N = wD.alloc (.cells #[.nilFunc] 179) ∧ But p wD N ∧ CellV N wD.heap.size .nilFunc := ⟨_, rfl, (But.refl _ _).alloc _, CellV.made _ _ _ (by decide)⟩
            obtain ⟨wN1, hW, hbN1, c5N1⟩ := FA
            have hwW : ∀ o, o = Value.pointer (some ⟨wD.heap.size, 0, none⟩) → o = o := fun _ _ => rfl
            rw [← hW]
            have HPN1 := Lib.hid (HPD.out.below (show Below wD.heap.size wD wN1 by rw [hW]; exact (Below.refl _ _).alloc (Nat.le_refl _) _))
            have hbutN1 := hbutD.trans hbN1
            have cQN1 := cQD.but hbN1 hQp
            have hk5lo : w.heap.size ≤ wD.heap.size := hbutD.size
            have hk5Q : wD.heap.size ≠ Q := fun e => by have := cQD.lt; omega
            clear hW hwW
            obtain ⟨k5, hk5⟩ : ∃ k, k = wD.heap.size := ⟨_, rfl⟩
            rw [← hk5] at c5N1 hk5lo hk5Q ⊢
            have hk5p : k5 ≠ p := by omega
            have HK5 := Lib.hid hk5
            clear hk5
            refine hK.out _ _ cQN1.c (fun _ => ?_)
            clear hK K
            refine wpAnyH_ready (rs := [1, 3]) (by kernel_rfl) (by simp) (AllReadyH.cons rfl (fun K hK => ?_) (AllReadyH.cons rfl (fun K hK => ?_) AllReadyH.nil))
            · skip
              go_simp
              refine (HNUM.out wN1 hbutN1 HPN1.out).mono ?_
              rintro e wN2 ⟨hq, hbN2⟩
              rw [HN.out] at hq
              obtain ⟨rfl, hpc⟩ := hq
              have HPN2 := Lib.hid hpc
              have hbutN2 := hbutN1.trans hbN2
              have cQN2 := cQN1.but hbN2 hQp
              have c5N2 := c5N1.but hbN2 hk5p
              clear hpc
              refine hK.out _ _ cQN2.c (fun _ => ?_)
              clear hK K
              refine wpAnyH_only 3 (by kernel_rfl) rfl (fun K hK => ?_)
              go_simp
              have FA : ∃ N, N = wN2.alloc (.cells #[(.int .i64 0)] 3) ∧ But p wN2 N ∧ CellV N wN2.heap.size (.int .i64 0) := ⟨_, rfl, (But.refl _ _).alloc _, CellV.made _ _ _ (by decide)⟩
              obtain ⟨wN3, hW, hbN3, c4N3⟩ := FA
              have hwW : ∀ o, o = Value.pointer (some ⟨wN2.heap.size, 0, none⟩) → o = o := fun _ _ => rfl
              rw [← hW]
              have HPN3 := Lib.hid (HPN2.out.below (show Below wN2.heap.size wN2 wN3 by rw [hW]; exact (Below.refl _ _).alloc (Nat.le_refl _) _))
              have hbutN3 := hbutN2.trans hbN3
              have cQN3 := cQN2.but hbN3 hQp
              have hk4lo : w.heap.size ≤ wN2.heap.size := hbutN2.size
              have hk4Q : wN2.heap.size ≠ Q := fun e => by have := cQN2.lt; omega
              clear hW hwW
              have c5N3 := c5N2.but hbN3 hk5p
              have hk45 : wN2.heap.size ≠ k5 := fun e => by have := c5N2.lt; omega
              obtain ⟨k4, hk4⟩ : ∃ k, k = wN2.heap.size := ⟨_, rfl⟩
              rw [← hk4] at c4N3 hk4lo hk4Q ⊢
              rw [← hk4] at hk45
              have hk4p : k4 ≠ p := by omega
              have HK4 := Lib.hid hk4
              clear hk4
              refine hK.out _ _ cQN3.c (fun _ => ?_)
              clear hK K
              have hk45' : k4 ≠ k5 := fun e => hk45 (by omega)
              refine wpAnyH_only 5 (by kernel_rfl) rfl (fun K hK => ?_)
              have y4 := c4N3.c
              have y4z := c4N3.z
              go_simp
              refine hK.out _ _ (cQN3.other (j := k4) hk4Q.symm _).c (fun _ => ?_)
              clear hK K y4 y4z
              have c4S := c4N3.same (.int .i64 mv)
              have c5S := c5N3.other (j := k4) hk45'.symm (.int .i64 mv)
              have cQS := cQN3.other (j := k4) hk4Q.symm (.int .i64 mv)
              have hbutS := hbutN3.put hk4lo (.int .i64 mv)
              have HPS := Lib.hid (HPN3.out.put hk4p c4N3.n (.int .i64 mv))
              generalize wN3.setCell ⟨k4, 0, none⟩ (.int .i64 mv) = wS at c4S c5S cQS hbutS HPS ⊢
              refine wpAnyH_only 6 (by kernel_rfl) rfl (fun K hK => ?_)
              have y5 := c5S.c
              have y5z := c5S.z
              go_simp
              refine hK.out _ _ (cQS.other (j := k5) hk5Q.symm _).c (fun _ => ?_)
              clear hK K y5 y5z
              have c4T := c4S.other (j := k5) hk45' (.func (.func kf) #[] cpf)
              have c5T := c5S.same (.func (.func kf) #[] cpf)
              have cQT := cQS.other (j := k5) hk5Q.symm (.func (.func kf) #[] cpf)
              have hbutT := hbutS.put hk5lo (.func (.func kf) #[] cpf)
              have HPT := Lib.hid (HPS.out.put hk5p c5S.n (.func (.func kf) #[] cpf))
              generalize wS.setCell ⟨k5, 0, none⟩ (.func (.func kf) #[] cpf) = wT at c4T c5T cQT hbutT HPT ⊢
              refine wpAnyH_done (by kernel_rfl) ?_ _
              have y4 := c4T.c
              have yQ := cQT.c
              have yQz := cQT.z
              by_cases hm0 : mv = 0
              · have hr0 : r = none := by rw [← HR.out, pRel, HO.out]; dsimp only; unfold pMod; rw [HM.out, if_pos rfl, HN.out]; simp [hm0]
                have HR0 := Lib.hid hr0
                subst hm0
                clear hr0
                go_wp2
                refine ⟨rfl, ?_, hbutT⟩
                rw [HR0.out]
              · have hmz : ((mv : Int) == 0) = false := by simp; omega
                have hre : pRel (c :: ([] : List Wd)) = match pManner t3 with
                    | none => none
                    | some ((i, nt), v) => some ((fun x => i (modF F mv x) != nt), v) := by
                  rw [pRel, HO.out]; dsimp only; unfold pMod; rw [HM.out, if_pos rfl, HN.out]; simp only [if_neg hm0]; rfl
                have HRE := Lib.hid hre
                have hm1 : 0 < mv := by omega
                clear hre hm0
                have cU := cQT.same (.func (.func 95) #[] #[.pointer (some ⟨k5, 0, none⟩), .pointer (some ⟨k4, 0, none⟩)])
                have hbutU := hbutT.put (show w.heap.size ≤ Q by have := HQ.out; omega) (.func (.func 95) #[] #[.pointer (some ⟨k5, 0, none⟩), .pointer (some ⟨k4, 0, none⟩)])
                have HPU := Lib.hid (HPT.out.put hQp cQT.n (.func (.func 95) #[] #[.pointer (some ⟨k5, 0, none⟩), .pointer (some ⟨k4, 0, none⟩)]))
                have c4U := c4T.other (j := Q) hk4Q (.func (.func 95) #[] #[.pointer (some ⟨k5, 0, none⟩), .pointer (some ⟨k4, 0, none⟩)])
                have c5U := c5T.other (j := Q) hk5Q (.func (.func 95) #[] #[.pointer (some ⟨k5, 0, none⟩), .pointer (some ⟨k4, 0, none⟩)])
                go_wp2_with fail
                generalize wT.setCell ⟨Q, 0, none⟩ (.func (.func 95) #[] #[.pointer (some ⟨k5, 0, none⟩), .pointer (some ⟨k4, 0, none⟩)]) = wU at cU hbutU HPU c4U c5U ⊢
                have hFU : OpR w.heap.size wU.heap.size wU (.func (.func 95) #[] #[.pointer (some ⟨k5, 0, none⟩), .pointer (some ⟨k4, 0, none⟩)]) (modF F mv) :=
                  ⟨95, _, rfl, fun args w => enters_of Tryz.func95 (by kernel_rfl) rfl args w, fun W hW nv x hx =>
                    rel1_any nv x k5 k4 _ mv F 0 0 W hx hmv hm1 ((hW.cell (p := ⟨k5, 0, none⟩) hk5lo c5U.lt).trans c5U.c) ((hW.cell (p := ⟨k4, 0, none⟩) hk4lo c4U.lt).trans c4U.c) (HFV.out 0 0 W) (Nat.zero_le _)⟩
                have HFU := Lib.hid hFU
                have cQ := cU
                clear hFU y4 yQ yQz
                have HMAN := Lib.hid (manner_p p (t3) wU HPU.out (fun x h => HX.out x (List.mem_cons_of_mem _ (List.mem_of_mem_tail (hsub.mem x h)))) (HT.out.but hbutU) (by have hz1 := hsub.len; have hz2 : (([] : List Wd)).tail.length ≤ (([] : List Wd)).length := (by simp); omega))
                go_wp2_with fail
                refine HMAN.out.mono ?_
                rintro e w7 ⟨hq, hb7⟩
                have hbut7 := hbutU.trans hb7
                have hrr : r = match pManner (t3) with
                    | none => none
                    | some ((i, nt), v) => some ((fun x => i ((modF F mv) x) != nt), v) := by
                  rw [← HR.out]
                  exact HRE.out
                cases hn : pManner (t3) with
                | none =>
                  rw [hn] at hq hrr
                  obtain rfl := hq
                  have HRR := Lib.hid hrr
                  clear hrr hn
                  go_wp2
                  refine ⟨rfl, ?_, hbut7⟩
                  rw [HRR.out]
                | some q =>
                  obtain ⟨⟨Tm, nt⟩, t'⟩ := q
                  rw [hn] at hq hrr
                  obtain ⟨⟨v, rfl, htm⟩, hp7⟩ := hq
                  have HRR := Lib.hid hrr
                  have HTM := Lib.hid htm
                  have HP7 := Lib.hid hp7
                  have cQ7 := cQ.but hb7 hQp
                  have hQ7 := cQ7.lt
                  have HF7 := Lib.hid (OpR.keep (lo' := w.heap.size) (hi' := w7.heap.size) HFU.out (hb7.keep hlt (Nat.le_refl _)) (Nat.le_refl _) hb7.size)
                  obtain ⟨kt, cpt, rfl, _⟩ := htm
                  clear hrr hn hp7
                  go_wp2
                  go_ret
                  have hbA := hbut7.alloc (.cells #[.func (.func kt) #[] cpt] 118)
                  have hbB := hbA.alloc (.cells #[.bool nt] 4)
                  have hsA : (w7.alloc (.cells #[.func (.func kt) #[] cpt] 118)).heap.size = w7.heap.size + 1 := by simp
                  have hsB : ((w7.alloc (.cells #[.func (.func kt) #[] cpt] 118)).alloc (.cells #[.bool nt] 4)).heap.size = w7.heap.size + 2 := by simp
                  have hbAB : Below w7.heap.size w7 ((w7.alloc (.cells #[.func (.func kt) #[] cpt] 118)).alloc (.cells #[.bool nt] 4)) := ((Below.refl _ _).alloc (Nat.le_refl _) _).alloc (by simp) _
                  refine ⟨?_, hbB⟩
                  rw [HRR.out]
                  have hQw := HQ.out
                  have hw7 := hbut7.size
                  refine ⟨⟨_, rfl, 98, _, rfl, fun args w => enters_of Tryz.func98 (by kernel_rfl) rfl args w, fun W hW nv x hx => ?_⟩, HP7.out.below hbAB⟩
                  rw [hsB] at hW
                  have hk7 : KeepR w.heap.size w7.heap.size w7 W := hW.via (keep_below hbAB (Nat.le_refl _) (Nat.le_refl _)) (Nat.le_refl _) (by omega)
                  refine rel2_any nv x _ _ _ _ _ nt Tm ((modF F mv)) w.heap.size w7.heap.size W hx ((hW.cell ?_ ?_).trans ?_) ((hk7.cell ?_ hQ7).trans cQ7.c) ((hW.cell ?_ ?_).trans ?_) (HTM.out.keep (hk7.via (keep_refl (Nat.le_refl _)) (by have := hbutU.size; omega) (Nat.le_refl _)) (by have := hbutU.size; omega) (Nat.le_refl _)) (HF7.out.keep hk7 (Nat.le_refl _) (Nat.le_refl _)) hk7.1
                  all_goals first | (show w.heap.size ≤ w7.heap.size; omega) | (show w7.heap.size < w7.heap.size + 2; omega) | (show w.heap.size ≤ w7.heap.size + 1; omega) | (show w7.heap.size + 1 < w7.heap.size + 2; omega) | (show w.heap.size ≤ Q; omega) | (go_simp; done)
            · skip
              go_simp
              have FA : ∃ N, N = wN1.alloc (.cells #[(.int .i64 0)] 3) ∧ But p wN1 N ∧ CellV N wN1.heap.size (.int .i64 0) := ⟨_, rfl, (But.refl _ _).alloc _, CellV.made _ _ _ (by decide)⟩
              obtain ⟨wN2, hW, hbN2, c4N2⟩ := FA
              have hwW : ∀ o, o = Value.pointer (some ⟨wN1.heap.size, 0, none⟩) → o = o := fun _ _ => rfl
              rw [← hW]
              have HPN2 := Lib.hid (HPN1.out.below (show Below wN1.heap.size wN1 wN2 by rw [hW]; exact (Below.refl _ _).alloc (Nat.le_refl _) _))
              have hbutN2 := hbutN1.trans hbN2
              have cQN2 := cQN1.but hbN2 hQp
              have hk4lo : w.heap.size ≤ wN1.heap.size := hbutN1.size
              have hk4Q : wN1.heap.size ≠ Q := fun e => by have := cQN1.lt; omega
              clear hW hwW
              have c5N2 := c5N1.but hbN2 hk5p
              have hk45 : wN1.heap.size ≠ k5 := fun e => by have := c5N1.lt; omega
              obtain ⟨k4, hk4⟩ : ∃ k, k = wN1.heap.size := ⟨_, rfl⟩
              rw [← hk4] at c4N2 hk4lo hk4Q ⊢
              rw [← hk4] at hk45
              have hk4p : k4 ≠ p := by omega
              have HK4 := Lib.hid hk4
              clear hk4
              refine hK.out _ _ cQN2.c (fun _ => ?_)
              clear hK K
              refine wpAnyH_only 1 (by kernel_rfl) rfl (fun K hK => ?_)
              go_simp
              refine (HNUM.out wN2 hbutN2 HPN2.out).mono ?_
              rintro e wN3 ⟨hq, hbN3⟩
              rw [HN.out] at hq
              obtain ⟨rfl, hpc⟩ := hq
              have HPN3 := Lib.hid hpc
              have hbutN3 := hbutN2.trans hbN3
              have cQN3 := cQN2.but hbN3 hQp
              have c4N3 := c4N2.but hbN3 hk4p
              have c5N3 := c5N2.but hbN3 hk5p
              clear hpc
              refine hK.out _ _ cQN3.c (fun _ => ?_)
              clear hK K
              have hk45' : k4 ≠ k5 := fun e => hk45 (by omega)
              refine wpAnyH_only 5 (by kernel_rfl) rfl (fun K hK => ?_)
              have y4 := c4N3.c
              have y4z := c4N3.z
              go_simp
              refine hK.out _ _ (cQN3.other (j := k4) hk4Q.symm _).c (fun _ => ?_)
              clear hK K y4 y4z
              have c4S := c4N3.same (.int .i64 mv)
              have c5S := c5N3.other (j := k4) hk45'.symm (.int .i64 mv)
              have cQS := cQN3.other (j := k4) hk4Q.symm (.int .i64 mv)
              have hbutS := hbutN3.put hk4lo (.int .i64 mv)
              have HPS := Lib.hid (HPN3.out.put hk4p c4N3.n (.int .i64 mv))
              generalize wN3.setCell ⟨k4, 0, none⟩ (.int .i64 mv) = wS at c4S c5S cQS hbutS HPS ⊢
              refine wpAnyH_only 6 (by kernel_rfl) rfl (fun K hK => ?_)
              have y5 := c5S.c
              have y5z := c5S.z
              go_simp
              refine hK.out _ _ (cQS.other (j := k5) hk5Q.symm _).c (fun _ => ?_)
              clear hK K y5 y5z
              have c4T := c4S.other (j := k5) hk45' (.func (.func kf) #[] cpf)
              have c5T := c5S.same (.func (.func kf) #[] cpf)
              have cQT := cQS.other (j := k5) hk5Q.symm (.func (.func kf) #[] cpf)
              have hbutT := hbutS.put hk5lo (.func (.func kf) #[] cpf)
              have HPT := Lib.hid (HPS.out.put hk5p c5S.n (.func (.func kf) #[] cpf))
              generalize wS.setCell ⟨k5, 0, none⟩ (.func (.func kf) #[] cpf) = wT at c4T c5T cQT hbutT HPT ⊢
              refine wpAnyH_done (by kernel_rfl) ?_ _
              have y4 := c4T.c
              have yQ := cQT.c
              have yQz := cQT.z
              by_cases hm0 : mv = 0
              · have hr0 : r = none := by rw [← HR.out, pRel, HO.out]; dsimp only; unfold pMod; rw [HM.out, if_pos rfl, HN.out]; simp [hm0]
                have HR0 := Lib.hid hr0
                subst hm0
                clear hr0
                go_wp2
                refine ⟨rfl, ?_, hbutT⟩
                rw [HR0.out]
              · have hmz : ((mv : Int) == 0) = false := by simp; omega
                have hre : pRel (c :: ([] : List Wd)) = match pManner t3 with
                    | none => none
                    | some ((i, nt), v) => some ((fun x => i (modF F mv x) != nt), v) := by
                  rw [pRel, HO.out]; dsimp only; unfold pMod; rw [HM.out, if_pos rfl, HN.out]; simp only [if_neg hm0]; rfl
                have HRE := Lib.hid hre
                have hm1 : 0 < mv := by omega
                clear hre hm0
                have cU := cQT.same (.func (.func 95) #[] #[.pointer (some ⟨k5, 0, none⟩), .pointer (some ⟨k4, 0, none⟩)])
                have hbutU := hbutT.put (show w.heap.size ≤ Q by have := HQ.out; omega) (.func (.func 95) #[] #[.pointer (some ⟨k5, 0, none⟩), .pointer (some ⟨k4, 0, none⟩)])
                have HPU := Lib.hid (HPT.out.put hQp cQT.n (.func (.func 95) #[] #[.pointer (some ⟨k5, 0, none⟩), .pointer (some ⟨k4, 0, none⟩)]))
                have c4U := c4T.other (j := Q) hk4Q (.func (.func 95) #[] #[.pointer (some ⟨k5, 0, none⟩), .pointer (some ⟨k4, 0, none⟩)])
                have c5U := c5T.other (j := Q) hk5Q (.func (.func 95) #[] #[.pointer (some ⟨k5, 0, none⟩), .pointer (some ⟨k4, 0, none⟩)])
                go_wp2_with fail
                generalize wT.setCell ⟨Q, 0, none⟩ (.func (.func 95) #[] #[.pointer (some ⟨k5, 0, none⟩), .pointer (some ⟨k4, 0, none⟩)]) = wU at cU hbutU HPU c4U c5U ⊢
                have hFU : OpR w.heap.size wU.heap.size wU (.func (.func 95) #[] #[.pointer (some ⟨k5, 0, none⟩), .pointer (some ⟨k4, 0, none⟩)]) (modF F mv) :=
                  ⟨95, _, rfl, fun args w => enters_of Tryz.func95 (by kernel_rfl) rfl args w, fun W hW nv x hx =>
                    rel1_any nv x k5 k4 _ mv F 0 0 W hx hmv hm1 ((hW.cell (p := ⟨k5, 0, none⟩) hk5lo c5U.lt).trans c5U.c) ((hW.cell (p := ⟨k4, 0, none⟩) hk4lo c4U.lt).trans c4U.c) (HFV.out 0 0 W) (Nat.zero_le _)⟩
                have HFU := Lib.hid hFU
                have cQ := cU
                clear hFU y4 yQ yQz
                have HMAN := Lib.hid (manner_p p (t3) wU HPU.out (fun x h => HX.out x (List.mem_cons_of_mem _ (List.mem_of_mem_tail (hsub.mem x h)))) (HT.out.but hbutU) (by have hz1 := hsub.len; have hz2 : (([] : List Wd)).tail.length ≤ (([] : List Wd)).length := (by simp); omega))
                go_wp2_with fail
                refine HMAN.out.mono ?_
                rintro e w7 ⟨hq, hb7⟩
                have hbut7 := hbutU.trans hb7
                have hrr : r = match pManner (t3) with
                    | none => none
                    | some ((i, nt), v) => some ((fun x => i ((modF F mv) x) != nt), v) := by
                  rw [← HR.out]
                  exact HRE.out
                cases hn : pManner (t3) with
                | none =>
                  rw [hn] at hq hrr
                  obtain rfl := hq
                  have HRR := Lib.hid hrr
                  clear hrr hn
                  go_wp2
                  refine ⟨rfl, ?_, hbut7⟩
                  rw [HRR.out]
                | some q =>
                  obtain ⟨⟨Tm, nt⟩, t'⟩ := q
                  rw [hn] at hq hrr
                  obtain ⟨⟨v, rfl, htm⟩, hp7⟩ := hq
                  have HRR := Lib.hid hrr
                  have HTM := Lib.hid htm
                  have HP7 := Lib.hid hp7
                  have cQ7 := cQ.but hb7 hQp
                  have hQ7 := cQ7.lt
                  have HF7 := Lib.hid (OpR.keep (lo' := w.heap.size) (hi' := w7.heap.size) HFU.out (hb7.keep hlt (Nat.le_refl _)) (Nat.le_refl _) hb7.size)
                  obtain ⟨kt, cpt, rfl, _⟩ := htm
                  clear hrr hn hp7
                  go_wp2
                  go_ret
                  have hbA := hbut7.alloc (.cells #[.func (.func kt) #[] cpt] 118)
                  have hbB := hbA.alloc (.cells #[.bool nt] 4)
                  have hsA : (w7.alloc (.cells #[.func (.func kt) #[] cpt] 118)).heap.size = w7.heap.size + 1 := by simp
                  have hsB : ((w7.alloc (.cells #[.func (.func kt) #[] cpt] 118)).alloc (.cells #[.bool nt] 4)).heap.size = w7.heap.size + 2 := by simp
                  have hbAB : Below w7.heap.size w7 ((w7.alloc (.cells #[.func (.func kt) #[] cpt] 118)).alloc (.cells #[.bool nt] 4)) := ((Below.refl _ _).alloc (Nat.le_refl _) _).alloc (by simp) _
                  refine ⟨?_, hbB⟩
                  rw [HRR.out]
                  have hQw := HQ.out
                  have hw7 := hbut7.size
                  refine ⟨⟨_, rfl, 98, _, rfl, fun args w => enters_of Tryz.func98 (by kernel_rfl) rfl args w, fun W hW nv x hx => ?_⟩, HP7.out.below hbAB⟩
                  rw [hsB] at hW
                  have hk7 : KeepR w.heap.size w7.heap.size w7 W := hW.via (keep_below hbAB (Nat.le_refl _) (Nat.le_refl _)) (Nat.le_refl _) (by omega)
                  refine rel2_any nv x _ _ _ _ _ nt Tm ((modF F mv)) w.heap.size w7.heap.size W hx ((hW.cell ?_ ?_).trans ?_) ((hk7.cell ?_ hQ7).trans cQ7.c) ((hW.cell ?_ ?_).trans ?_) (HTM.out.keep (hk7.via (keep_refl (Nat.le_refl _)) (by have := hbutU.size; omega) (Nat.le_refl _)) (by have := hbutU.size; omega) (Nat.le_refl _)) (HF7.out.keep hk7 (Nat.le_refl _) (Nat.le_refl _)) hk7.1
                  all_goals first | (show w.heap.size ≤ w7.heap.size; omega) | (show w7.heap.size < w7.heap.size + 2; omega) | (show w.heap.size ≤ w7.heap.size + 1; omega) | (show w7.heap.size + 1 < w7.heap.size + 2; omega) | (show w.heap.size ≤ Q; omega) | (go_simp; done)
    · have hne : ¬ (cap : Int) = 1 := by omega
      go_wp2_with fail
      have F1 : ∃ W1, W1 = (w.setCell ⟨p, 0, none⟩ (.slice (some (b.add 1)) t.length (cap - 1))).alloc (.cells #[.func (.func kf) #[] cpf] 179) ∧ But p w W1 ∧ W1.heap.size = w.heap.size + 1 ∧ PAt W1 p t ∧ CellV W1 w.heap.size (.func (.func kf) #[] cpf) := by
        have hs : (w.setCell ⟨p, 0, none⟩ (.slice (some (b.add 1)) t.length (cap - 1))).heap.size = w.heap.size := by simp [World.setCell]
        refine ⟨_, rfl, (But.set p w 0 _).alloc _, by simp [World.setCell], ((HP.out.step hc).1).below ((Below.refl _ _).alloc (Nat.le_refl _) _), ?_⟩
        rw [← hs]
        exact CellV.made _ _ _ (by decide)
      obtain ⟨W1, hW1, hbut1, hs1, hp1, cQ1⟩ := F1
      have hwld : ∀ o, ((w.setCell ⟨p, 0, none⟩ (.slice (some (b.add 1)) t.length (cap - 1))).alloc (.cells #[.func (.func kf) #[] cpf] 179)).alloc o = W1.alloc o := fun o => by rw [hW1]
      have HP1 := Lib.hid hp1
      have HS1 := Lib.hid hs1
      have him := is_mod p t W1 hp1
      rw [hs1] at him
      have HIM := Lib.hid him
      clear hp1 hs1 him
      have hadd : (some (b.add 1) : Option Addr) = some ⟨b.block, b.off + 1, none⟩ := rfl
      rw [hadd] at hwld
      rw [hwld]
      clear hwld hW1
      refine HIM.out.mono ?_
      rintro e w2 ⟨rfl, hp2, hb2⟩
      have hbut2 := hbut1.trans hb2
      have hQp : w.heap.size ≠ p := by omega
      have cQ2 := cQ1.but hb2 hQp
      have HP2 := Lib.hid hp2
      clear hp2 cQ1
      cases hm : modW (t.headD [])
      · have hq2 := HP2.out
        rw [hm] at hq2
        have HQ2 := Lib.hid hq2
        have HM := Lib.hid hm
        clear hq2 hm
        have cQ := cQ2
        obtain ⟨Q, hQ⟩ : ∃ Q, Q = w.heap.size := ⟨_, rfl⟩
        rw [← hQ] at cQ cQ2 hQp ⊢
        have HQ := Lib.hid hQ
        clear hQ
        have HMAN := Lib.hid (manner_p p (t) w2 HQ2.out (fun x h => HX.out x (by simp [h])) (HT.out.but hbut2) (by omega))
        go_wp2_with fail
        refine HMAN.out.mono ?_
        rintro e w7 ⟨hq, hb7⟩
        have hbut7 := hbut2.trans hb7
        have hrr : r = match pManner (t) with
            | none => none
            | some ((i, nt), v) => some ((fun x => i (F x) != nt), v) := by
          rw [← HR.out]
          rw [pRel, HO.out]; dsimp only; unfold pMod; rw [HM.out]; rfl
        cases hn : pManner (t) with
        | none =>
          rw [hn] at hq hrr
          obtain rfl := hq
          have HRR := Lib.hid hrr
          clear hrr hn
          go_wp2
          refine ⟨rfl, ?_, hbut7⟩
          rw [HRR.out]
        | some q =>
          obtain ⟨⟨Tm, nt⟩, t'⟩ := q
          rw [hn] at hq hrr
          obtain ⟨⟨v, rfl, htm⟩, hp7⟩ := hq
          have HRR := Lib.hid hrr
          have HTM := Lib.hid htm
          have HP7 := Lib.hid hp7
          have cQ7 := cQ.but hb7 hQp
          have hQ7 := cQ7.lt
          have HF7 := Lib.hid (OpR.keep (lo' := w.heap.size) (hi' := w7.heap.size) (HFV.out w.heap.size w2.heap.size w2) (hb7.keep hlt (Nat.le_refl _)) (Nat.le_refl _) hb7.size)
          obtain ⟨kt, cpt, rfl, _⟩ := htm
          clear hrr hn hp7
          go_wp2
          go_ret
          have hbA := hbut7.alloc (.cells #[.func (.func kt) #[] cpt] 118)
          have hbB := hbA.alloc (.cells #[.bool nt] 4)
          have hsA : (w7.alloc (.cells #[.func (.func kt) #[] cpt] 118)).heap.size = w7.heap.size + 1 := by simp
          have hsB : ((w7.alloc (.cells #[.func (.func kt) #[] cpt] 118)).alloc (.cells #[.bool nt] 4)).heap.size = w7.heap.size + 2 := by simp
          have hbAB : Below w7.heap.size w7 ((w7.alloc (.cells #[.func (.func kt) #[] cpt] 118)).alloc (.cells #[.bool nt] 4)) := ((Below.refl _ _).alloc (Nat.le_refl _) _).alloc (by simp) _
          refine ⟨?_, hbB⟩
          rw [HRR.out]
          have hQw := HQ.out
          have hw7 := hbut7.size
          refine ⟨⟨_, rfl, 98, _, rfl, fun args w => enters_of Tryz.func98 (by kernel_rfl) rfl args w, fun W hW nv x hx => ?_⟩, HP7.out.below hbAB⟩
          rw [hsB] at hW
          have hk7 : KeepR w.heap.size w7.heap.size w7 W := hW.via (keep_below hbAB (Nat.le_refl _) (Nat.le_refl _)) (Nat.le_refl _) (by omega)
          refine rel2_any nv x _ _ _ _ _ nt Tm (F) w.heap.size w7.heap.size W hx ((hW.cell ?_ ?_).trans ?_) ((hk7.cell ?_ hQ7).trans cQ7.c) ((hW.cell ?_ ?_).trans ?_) (HTM.out.keep (hk7.via (keep_refl (Nat.le_refl _)) (by have := hbut2.size; omega) (Nat.le_refl _)) (by have := hbut2.size; omega) (Nat.le_refl _)) (HF7.out.keep hk7 (Nat.le_refl _) (Nat.le_refl _)) hk7.1
          all_goals first | (show w.heap.size ≤ w7.heap.size; omega) | (show w7.heap.size < w7.heap.size + 2; omega) | (show w.heap.size ≤ w7.heap.size + 1; omega) | (show w7.heap.size + 1 < w7.heap.size + 2; omega) | (show w.heap.size ≤ Q; omega) | (go_simp; done)
      · have hq2 := HP2.out
        rw [hm] at hq2
        have HQ2 := Lib.hid hq2
        have HM := Lib.hid hm
        clear hq2 hm
        have cQ := cQ2
        obtain ⟨Q, hQ⟩ : ∃ Q, Q = w.heap.size := ⟨_, rfl⟩
        rw [← hQ] at cQ cQ2 hQp ⊢
        have HQ := Lib.hid hQ
        clear hQ
        have HNUM := Lib.hid (fun W (hb : But p w W) (hp : PAt W p t.tail) => number_any p t.tail W hp (fun x h => HX.out x (List.mem_cons_of_mem _ (List.mem_of_mem_tail h))) (HT.out.but hb))
        have hS0 : w2.drew.cell? ⟨Q, 0, none⟩ = some (.func (.func kf) #[] cpf) := cQ2.c
        have hbutD := hbut2.drew
        have HPD := Lib.hid (show PAt w2.drew p t.tail from HQ2.out.below (Below.refl _ w2).drew)
        have cQD : CellV w2.drew Q (.func (.func kf) #[] cpf) := ⟨cQ2.c, cQ2.z, cQ2.n⟩
        clear hbut1
        cases hn0 : pNum t.tail with
        | none =>
          have HN := Lib.hid hn0
          have hr0 : r = none := by rw [← HR.out, pRel, HO.out]; dsimp only; unfold pMod; rw [HM.out, if_pos rfl, HN.out]
          have HR0 := Lib.hid hr0
          clear hn0 hr0
          go_wp2_with fail
          refine wp_region_takes (fun W' : World => W'.cell? ⟨Q, 0, none⟩ = some (.func (.func kf) #[] cpf)) [0, 2] 5 (by intro _ _ d _ _ h; cases d <;> exact h) (by kernel_rfl) (by kernel_rfl) hS0 ?_
          (iterate 2 (first | (refine takes_yes (v := ?_) rfl (by rfl) ?_ ?_; rotate_left; (focus ((intro w' hS'; (try dsimp only at hS'); go_simp; try (with_reducible rfl)); done)); (try simp only [Act.put, List.setIfInBounds_toArray, List.set_cons_zero, List.set_cons_succ])) | (refine takes_no rfl (by rfl) ?_; (try simp only [Act.put, List.setIfInBounds_toArray, List.set_cons_zero, List.set_cons_succ]))))
          refine takes_nil ?_
          generalize w2.drew = wD at hbutD HPD cQD ⊢
          refine wpAnyH_ready (rs := [1, 3, 4]) (by kernel_rfl) (by simp) (AllReadyH.cons rfl (fun K hK => ?_) (AllReadyH.cons rfl (fun K hK => ?_) (AllReadyH.cons rfl (fun K hK => ?_) AllReadyH.nil)))
          · skip
            go_simp
            refine (HNUM.out wD hbutD HPD.out).mono ?_
            rintro e wN1 ⟨hq, hbN1⟩
            rw [HN.out] at hq
            obtain rfl := hq
            refine ⟨rfl, ?_, hbutD.trans hbN1⟩
            rw [HR0.out]
          · skip
            go_simp
            have FA : ∃ N, N = wD.alloc (.cells #[(.int .i64 0)] 3) ∧ But p wD N ∧ CellV N wD.heap.size (.int .i64 0) := ⟨_, rfl, (But.refl _ _).alloc _, CellV.made _ _ _ (by decide)⟩
            obtain ⟨wN1, hW, hbN1, c4N1⟩ := FA
            have hwW : ∀ o, o = Value.pointer (some ⟨wD.heap.size, 0, none⟩) → o = o := fun _ _ => rfl
            rw [← hW]
            have HPN1 := Lib.hid (HPD.out.below (show Below wD.heap.size wD wN1 by rw [hW]; exact (Below.refl _ _).alloc (Nat.le_refl _) _))
            have hbutN1 := hbutD.trans hbN1
            have cQN1 := cQD.but hbN1 hQp
            have hk4lo : w.heap.size ≤ wD.heap.size := hbutD.size
            have hk4Q : wD.heap.size ≠ Q := fun e => by have := cQD.lt; omega
            clear hW hwW
            obtain ⟨k4, hk4⟩ : ∃ k, k = wD.heap.size := ⟨_, rfl⟩
            rw [← hk4] at c4N1 hk4lo hk4Q ⊢
            have hk4p : k4 ≠ p := by omega
            have HK4 := Lib.hid hk4
            clear hk4
            refine hK.out _ _ cQN1.c (fun _ => ?_)
            clear hK K
            refine wpAnyH_ready (rs := [1, 4]) (by kernel_rfl) (by simp) (AllReadyH.cons rfl (fun K hK => ?_) (AllReadyH.cons rfl (fun K hK => ?_) AllReadyH.nil))
            · skip
              go_simp
              refine (HNUM.out wN1 hbutN1 HPN1.out).mono ?_
              rintro e wN2 ⟨hq, hbN2⟩
              rw [HN.out] at hq
              obtain rfl := hq
              refine ⟨rfl, ?_, hbutN1.trans hbN2⟩
              rw [HR0.out]
            · skip
              go_simp
              have FA : ∃ N, N = wN1.alloc (.cells #[.nilFunc] 179) ∧ But p wN1 N ∧ CellV N wN1.heap.size .nilFunc := ⟨_, rfl, (But.refl _ _).alloc _, CellV.made _ _ _ (by decide)⟩
              obtain ⟨wN2, hW, hbN2, c5N2⟩ := FA
              have hwW : ∀ o, o = Value.pointer (some ⟨wN1.heap.size, 0, none⟩) → o = o := fun _ _ => rfl
              rw [← hW]
              have HPN2 := Lib.hid (HPN1.out.below (show Below wN1.heap.size wN1 wN2 by rw [hW]; exact (Below.refl _ _).alloc (Nat.le_refl _) _))
              have hbutN2 := hbutN1.trans hbN2
              have cQN2 := cQN1.but hbN2 hQp
              have hk5lo : w.heap.size ≤ wN1.heap.size := hbutN1.size
              have hk5Q : wN1.heap.size ≠ Q := fun e => by have := cQN1.lt; omega
              clear hW hwW
              have c4N2 := c4N1.but hbN2 hk4p
              have hk45 : wN1.heap.size ≠ k4 := fun e => by have := c4N1.lt; omega
              obtain ⟨k5, hk5⟩ : ∃ k, k = wN1.heap.size := ⟨_, rfl⟩
              rw [← hk5] at c5N2 hk5lo hk5Q ⊢
              rw [← hk5] at hk45
              have hk5p : k5 ≠ p := by omega
              have HK5 := Lib.hid hk5
              clear hk5
              refine hK.out _ _ cQN2.c (fun _ => ?_)
              clear hK K
              refine wpAnyH_only 1 (by kernel_rfl) rfl (fun K hK => ?_)
              go_simp
              refine (HNUM.out wN2 hbutN2 HPN2.out).mono ?_
              rintro e wN3 ⟨hq, hbN3⟩
              rw [HN.out] at hq
              obtain rfl := hq
              refine ⟨rfl, ?_, hbutN2.trans hbN3⟩
              rw [HR0.out]
          · skip
            go_simp
            have FA : ∃ N, N = wD.alloc (.cells #[.nilFunc] 179) ∧ But p wD N ∧ CellV N wD.heap.size .nilFunc := ⟨_, rfl, (But.refl _ _).alloc _, CellV.made _ _ _ (by decide)⟩
            obtain ⟨wN1, hW, hbN1, c5N1⟩ := FA
            have hwW : ∀ o, o = Value.pointer (some ⟨wD.heap.size, 0, none⟩) → o = o := fun _ _ => rfl
            rw [← hW]
            have HPN1 := Lib.hid (HPD.out.below (show Below wD.heap.size wD wN1 by rw [hW]; exact (Below.refl _ _).alloc (Nat.le_refl _) _))
            have hbutN1 := hbutD.trans hbN1
            have cQN1 := cQD.but hbN1 hQp
            have hk5lo : w.heap.size ≤ wD.heap.size := hbutD.size
            have hk5Q : wD.heap.size ≠ Q := fun e => by have := cQD.lt; omega
            clear hW hwW
            obtain ⟨k5, hk5⟩ : ∃ k, k = wD.heap.size := ⟨_, rfl⟩
            rw [← hk5] at c5N1 hk5lo hk5Q ⊢
            have hk5p : k5 ≠ p := by omega
            have HK5 := Lib.hid hk5
            clear hk5
            refine hK.out _ _ cQN1.c (fun _ => ?_)
            clear hK K
            refine wpAnyH_ready (rs := [1, 3]) (by kernel_rfl) (by simp) (AllReadyH.cons rfl (fun K hK => ?_) (AllReadyH.cons rfl (fun K hK => ?_) AllReadyH.nil))
            · skip
              go_simp
              refine (HNUM.out wN1 hbutN1 HPN1.out).mono ?_
              rintro e wN2 ⟨hq, hbN2⟩
              rw [HN.out] at hq
              obtain rfl := hq
              refine ⟨rfl, ?_, hbutN1.trans hbN2⟩
              rw [HR0.out]
            · skip
              go_simp
              have FA : ∃ N, N = wN1.alloc (.cells #[(.int .i64 0)] 3) ∧ But p wN1 N ∧ CellV N wN1.heap.size (.int .i64 0) := ⟨_, rfl, (But.refl _ _).alloc _, CellV.made _ _ _ (by decide)⟩
              obtain ⟨wN2, hW, hbN2, c4N2⟩ := FA
              have hwW : ∀ o, o = Value.pointer (some ⟨wN1.heap.size, 0, none⟩) → o = o := fun _ _ => rfl
              rw [← hW]
              have HPN2 := Lib.hid (HPN1.out.below (show Below wN1.heap.size wN1 wN2 by rw [hW]; exact (Below.refl _ _).alloc (Nat.le_refl _) _))
              have hbutN2 := hbutN1.trans hbN2
              have cQN2 := cQN1.but hbN2 hQp
              have hk4lo : w.heap.size ≤ wN1.heap.size := hbutN1.size
              have hk4Q : wN1.heap.size ≠ Q := fun e => by have := cQN1.lt; omega
              clear hW hwW
              have c5N2 := c5N1.but hbN2 hk5p
              have hk45 : wN1.heap.size ≠ k5 := fun e => by have := c5N1.lt; omega
              obtain ⟨k4, hk4⟩ : ∃ k, k = wN1.heap.size := ⟨_, rfl⟩
              rw [← hk4] at c4N2 hk4lo hk4Q ⊢
              rw [← hk4] at hk45
              have hk4p : k4 ≠ p := by omega
              have HK4 := Lib.hid hk4
              clear hk4
              refine hK.out _ _ cQN2.c (fun _ => ?_)
              clear hK K
              refine wpAnyH_only 1 (by kernel_rfl) rfl (fun K hK => ?_)
              go_simp
              refine (HNUM.out wN2 hbutN2 HPN2.out).mono ?_
              rintro e wN3 ⟨hq, hbN3⟩
              rw [HN.out] at hq
              obtain rfl := hq
              refine ⟨rfl, ?_, hbutN2.trans hbN3⟩
              rw [HR0.out]
        | some q0 =>
          obtain ⟨mv, t3⟩ := q0
          have HN := Lib.hid hn0
          have hmv := (pNum_small hn0).1
          have hsub := pNum_sub hn0
          clear hn0
          go_wp2_with fail
          refine wp_region_takes (fun W' : World => W'.cell? ⟨Q, 0, none⟩ = some (.func (.func kf) #[] cpf)) [0, 2] 5 (by intro _ _ d _ _ h; cases d <;> exact h) (by kernel_rfl) (by kernel_rfl) hS0 ?_
          (iterate 2 (first | (refine takes_yes (v := ?_) rfl (by rfl) ?_ ?_; rotate_left; (focus ((intro w' hS'; (try dsimp only at hS'); go_simp; try (with_reducible rfl)); done)); (try simp only [Act.put, List.setIfInBounds_toArray, List.set_cons_zero, List.set_cons_succ])) | (refine takes_no rfl (by rfl) ?_; (try simp only [Act.put, List.setIfInBounds_toArray, List.set_cons_zero, List.set_cons_succ]))))
          refine takes_nil ?_
          generalize w2.drew = wD at hbutD HPD cQD ⊢
          refine wpAnyH_ready (rs := [1, 3, 4]) (by kernel_rfl) (by simp) (AllReadyH.cons rfl (fun K hK => ?_) (AllReadyH.cons rfl (fun K hK => ?_) (AllReadyH.cons rfl (fun K hK => ?_) AllReadyH.nil)))
          · skip
            go_simp
            refine (HNUM.out wD hbutD HPD.out).mono ?_
            rintro e wN1 ⟨hq, hbN1⟩
            rw [HN.out] at hq
            obtain ⟨rfl, hpc⟩ := hq
            have HPN1 := Lib.hid hpc
            have hbutN1 := hbutD.trans hbN1
            have cQN1 := cQD.but hbN1 hQp
            clear hpc
            refine hK.out _ _ cQN1.c (fun _ => ?_)
            clear hK K
            refine wpAnyH_ready (rs := [3, 4]) (by kernel_rfl) (by simp) (AllReadyH.cons rfl (fun K hK => ?_) (AllReadyH.cons rfl (fun K hK => ?_) AllReadyH.nil))
            · skip
              go_simp
              have FA : ∃ N, N = wN1.alloc (.cells #[(.int .i64 0)] 3) ∧ But p wN1 N ∧ CellV N wN1.heap.size (.int .i64 0) := ⟨_, rfl, (But.refl _ _).alloc _, CellV.made _ _ _ (by decide)⟩
              obtain ⟨wN2, hW, hbN2, c4N2⟩ := FA
              have hwW : ∀ o, o = Value.pointer (some ⟨wN1.heap.size, 0, none⟩) → o = o := fun _ _ => rfl
              rw [← hW]
              have HPN2 := Lib.hid (HPN1.out.below (show Below wN1.heap.size wN1 wN2 by rw [hW]; exact (Below.refl _ _).alloc (Nat.le_refl _) _))
              have hbutN2 := hbutN1.trans hbN2
              have cQN2 := cQN1.but hbN2 hQp
              have hk4lo : w.heap.size ≤ wN1.heap.size := hbutN1.size
              have hk4Q : wN1.heap.size ≠ Q := fun e => by have := cQN1.lt; omega
              clear hW hwW
              obtain ⟨k4, hk4⟩ : ∃ k, k = wN1.heap.size := ⟨_, rfl⟩
              rw [← hk4] at c4N2 hk4lo hk4Q ⊢
              have hk4p : k4 ≠ p := by omega
              have HK4 := Lib.hid hk4
              clear hk4
              refine hK.out _ _ cQN2.c (fun _ => ?_)
              clear hK K
              refine wpAnyH_only 4 (by kernel_rfl) rfl (fun K hK => ?_)
              go_simp
              have FA : ∃ N, N = wN2.alloc (.cells #[.nilFunc] 179) ∧ But p wN2 N ∧ CellV N wN2.heap.size .nilFunc := ⟨_, rfl, (But.refl _ _).alloc _, CellV.made _ _ _ (by decide)⟩
              obtain ⟨wN3, hW, hbN3, c5N3⟩ := FA
              have hwW : ∀ o, o = Value.pointer (some ⟨wN2.heap.size, 0, none⟩) → o = o := fun _ _ => rfl
              rw [← hW]
              have HPN3 := Lib.hid (HPN2.out.below (show Below wN2.heap.size wN2 wN3 by rw [hW]; exact (Below.refl _ _).alloc (Nat.le_refl _) _))
              have hbutN3 := hbutN2.trans hbN3
              have cQN3 := cQN2.but hbN3 hQp
              have hk5lo : w.heap.size ≤ wN2.heap.size := hbutN2.size
              have hk5Q : wN2.heap.size ≠ Q := fun e => by have := cQN2.lt; omega
              clear hW hwW
              have c4N3 := c4N2.but hbN3 hk4p
              have hk45 : wN2.heap.size ≠ k4 := fun e => by have := c4N2.lt; omega
              obtain ⟨k5, hk5⟩ : ∃ k, k = wN2.heap.size := ⟨_, rfl⟩
              rw [← hk5] at c5N3 hk5lo hk5Q ⊢
              rw [← hk5] at hk45
              have hk5p : k5 ≠ p := by omega
              have HK5 := Lib.hid hk5
              clear hk5
              refine hK.out _ _ cQN3.c (fun _ => ?_)
              clear hK K
              have hk45' : k4 ≠ k5 := fun e => hk45 (by omega)
              refine wpAnyH_only 5 (by kernel_rfl) rfl (fun K hK => ?_)
              have y4 := c4N3.c
              have y4z := c4N3.z
              go_simp
              refine hK.out _ _ (cQN3.other (j := k4) hk4Q.symm _).c (fun _ => ?_)
              clear hK K y4 y4z
              have c4S := c4N3.same (.int .i64 mv)
              have c5S := c5N3.other (j := k4) hk45'.symm (.int .i64 mv)
              have cQS := cQN3.other (j := k4) hk4Q.symm (.int .i64 mv)
              have hbutS := hbutN3.put hk4lo (.int .i64 mv)
              have HPS := Lib.hid (HPN3.out.put hk4p c4N3.n (.int .i64 mv))
              generalize wN3.setCell ⟨k4, 0, none⟩ (.int .i64 mv) = wS at c4S c5S cQS hbutS HPS ⊢
              refine wpAnyH_only 6 (by kernel_rfl) rfl (fun K hK => ?_)
              have y5 := c5S.c
              have y5z := c5S.z
              go_simp
              refine hK.out _ _ (cQS.other (j := k5) hk5Q.symm _).c (fun _ => ?_)
              clear hK K y5 y5z
              have c4T := c4S.other (j := k5) hk45' (.func (.func kf) #[] cpf)
              have c5T := c5S.same (.func (.func kf) #[] cpf)
              have cQT := cQS.other (j := k5) hk5Q.symm (.func (.func kf) #[] cpf)
              have hbutT := hbutS.put hk5lo (.func (.func kf) #[] cpf)
              have HPT := Lib.hid (HPS.out.put hk5p c5S.n (.func (.func kf) #[] cpf))
              generalize wS.setCell ⟨k5, 0, none⟩ (.func (.func kf) #[] cpf) = wT at c4T c5T cQT hbutT HPT ⊢
              refine wpAnyH_done (by kernel_rfl) ?_ _
              have y4 := c4T.c
              have yQ := cQT.c
              have yQz := cQT.z
              by_cases hm0 : mv = 0
              · have hr0 : r = none := by rw [← HR.out, pRel, HO.out]; dsimp only; unfold pMod; rw [HM.out, if_pos rfl, HN.out]; simp [hm0]
                have HR0 := Lib.hid hr0
                subst hm0
                clear hr0
                go_wp2
                refine ⟨rfl, ?_, hbutT⟩
                rw [HR0.out]
              · have hmz : ((mv : Int) == 0) = false := by simp; omega
                have hre : pRel (c :: t) = match pManner t3 with
                    | none => none
                    | some ((i, nt), v) => some ((fun x => i (modF F mv x) != nt), v) := by
                  rw [pRel, HO.out]; dsimp only; unfold pMod; rw [HM.out, if_pos rfl, HN.out]; simp only [if_neg hm0]; rfl
                have HRE := Lib.hid hre
                have hm1 : 0 < mv := by omega
                clear hre hm0
                have cU := cQT.same (.func (.func 95) #[] #[.pointer (some ⟨k5, 0, none⟩), .pointer (some ⟨k4, 0, none⟩)])
                have hbutU := hbutT.put (show w.heap.size ≤ Q by have := HQ.out; omega) (.func (.func 95) #[] #[.pointer (some ⟨k5, 0, none⟩), .pointer (some ⟨k4, 0, none⟩)])
                have HPU := Lib.hid (HPT.out.put hQp cQT.n (.func (.func 95) #[] #[.pointer (some ⟨k5, 0, none⟩), .pointer (some ⟨k4, 0, none⟩)]))
                have c4U := c4T.other (j := Q) hk4Q (.func (.func 95) #[] #[.pointer (some ⟨k5, 0, none⟩), .pointer (some ⟨k4, 0, none⟩)])
                have c5U := c5T.other (j := Q) hk5Q (.func (.func 95) #[] #[.pointer (some ⟨k5, 0, none⟩), .pointer (some ⟨k4, 0, none⟩)])
                go_wp2_with fail
                generalize wT.setCell ⟨Q, 0, none⟩ (.func (.func 95) #[] #[.pointer (some ⟨k5, 0, none⟩), .pointer (some ⟨k4, 0, none⟩)]) = wU at cU hbutU HPU c4U c5U ⊢
                have hFU : OpR w.heap.size wU.heap.size wU (.func (.func 95) #[] #[.pointer (some ⟨k5, 0, none⟩), .pointer (some ⟨k4, 0, none⟩)]) (modF F mv) :=
                  ⟨95, _, rfl, fun args w => enters_of Tryz.func95 (by kernel_rfl) rfl args w, fun W hW nv x hx =>
                    rel1_any nv x k5 k4 _ mv F 0 0 W hx hmv hm1 ((hW.cell (p := ⟨k5, 0, none⟩) hk5lo c5U.lt).trans c5U.c) ((hW.cell (p := ⟨k4, 0, none⟩) hk4lo c4U.lt).trans c4U.c) (HFV.out 0 0 W) (Nat.zero_le _)⟩
                have HFU := Lib.hid hFU
                have cQ := cU
                clear hFU y4 yQ yQz
                have HMAN := Lib.hid (manner_p p (t3) wU HPU.out (fun x h => HX.out x (List.mem_cons_of_mem _ (List.mem_of_mem_tail (hsub.mem x h)))) (HT.out.but hbutU) (by have hz1 := hsub.len; have hz2 : (t).tail.length ≤ (t).length := (by simp); omega))
                go_wp2_with fail
                refine HMAN.out.mono ?_
                rintro e w7 ⟨hq, hb7⟩
                have hbut7 := hbutU.trans hb7
                have hrr : r = match pManner (t3) with
                    | none => none
                    | some ((i, nt), v) => some ((fun x => i ((modF F mv) x) != nt), v) := by
                  rw [← HR.out]
                  exact HRE.out
                cases hn : pManner (t3) with
                | none =>
                  rw [hn] at hq hrr
                  obtain rfl := hq
                  have HRR := Lib.hid hrr
                  clear hrr hn
                  go_wp2
                  refine ⟨rfl, ?_, hbut7⟩
                  rw [HRR.out]
                | some q =>
                  obtain ⟨⟨Tm, nt⟩, t'⟩ := q
                  rw [hn] at hq hrr
                  obtain ⟨⟨v, rfl, htm⟩, hp7⟩ := hq
                  have HRR := Lib.hid hrr
                  have HTM := Lib.hid htm
                  have HP7 := Lib.hid hp7
                  have cQ7 := cQ.but hb7 hQp
                  have hQ7 := cQ7.lt
                  have HF7 := Lib.hid (OpR.keep (lo' := w.heap.size) (hi' := w7.heap.size) HFU.out (hb7.keep hlt (Nat.le_refl _)) (Nat.le_refl _) hb7.size)
                  obtain ⟨kt, cpt, rfl, _⟩ := htm
                  clear hrr hn hp7
                  go_wp2
                  go_ret
                  have hbA := hbut7.alloc (.cells #[.func (.func kt) #[] cpt] 118)
                  have hbB := hbA.alloc (.cells #[.bool nt] 4)
                  have hsA : (w7.alloc (.cells #[.func (.func kt) #[] cpt] 118)).heap.size = w7.heap.size + 1 := by simp
                  have hsB : ((w7.alloc (.cells #[.func (.func kt) #[] cpt] 118)).alloc (.cells #[.bool nt] 4)).heap.size = w7.heap.size + 2 := by simp
                  have hbAB : Below w7.heap.size w7 ((w7.alloc (.cells #[.func (.func kt) #[] cpt] 118)).alloc (.cells #[.bool nt] 4)) := ((Below.refl _ _).alloc (Nat.le_refl _) _).alloc (by simp) _
                  refine ⟨?_, hbB⟩
                  rw [HRR.out]
                  have hQw := HQ.out
                  have hw7 := hbut7.size
                  refine ⟨⟨_, rfl, 98, _, rfl, fun args w => enters_of Tryz.func98 (by kernel_rfl) rfl args w, fun W hW nv x hx => ?_⟩, HP7.out.below hbAB⟩
                  rw [hsB] at hW
                  have hk7 : KeepR w.heap.size w7.heap.size w7 W := hW.via (keep_below hbAB (Nat.le_refl _) (Nat.le_refl _)) (Nat.le_refl _) (by omega)
                  refine rel2_any nv x _ _ _ _ _ nt Tm ((modF F mv)) w.heap.size w7.heap.size W hx ((hW.cell ?_ ?_).trans ?_) ((hk7.cell ?_ hQ7).trans cQ7.c) ((hW.cell ?_ ?_).trans ?_) (HTM.out.keep (hk7.via (keep_refl (Nat.le_refl _)) (by have := hbutU.size; omega) (Nat.le_refl _)) (by have := hbutU.size; omega) (Nat.le_refl _)) (HF7.out.keep hk7 (Nat.le_refl _) (Nat.le_refl _)) hk7.1
                  all_goals first | (show w.heap.size ≤ w7.heap.size; omega) | (show w7.heap.size < w7.heap.size + 2; omega) | (show w.heap.size ≤ w7.heap.size + 1; omega) | (show w7.heap.size + 1 < w7.heap.size + 2; omega) | (show w.heap.size ≤ Q; omega) | (go_simp; done)
            · skip
              go_simp
              have FA : ∃ N, N = wN1.alloc (.cells #[.nilFunc] 179) ∧ But p wN1 N ∧ CellV N wN1.heap.size .nilFunc := ⟨_, rfl, (But.refl _ _).alloc _, CellV.made _ _ _ (by decide)⟩
              obtain ⟨wN2, hW, hbN2, c5N2⟩ := FA
              have hwW : ∀ o, o = Value.pointer (some ⟨wN1.heap.size, 0, none⟩) → o = o := fun _ _ => rfl
              rw [← hW]
              have HPN2 := Lib.hid (HPN1.out.below (show Below wN1.heap.size wN1 wN2 by rw [hW]; exact (Below.refl _ _).alloc (Nat.le_refl _) _))
              have hbutN2 := hbutN1.trans hbN2
              have cQN2 := cQN1.but hbN2 hQp
              have hk5lo : w.heap.size ≤ wN1.heap.size := hbutN1.size
              have hk5Q : wN1.heap.size ≠ Q := fun e => by have := cQN1.lt; omega
              clear hW hwW
              obtain ⟨k5, hk5⟩ : ∃ k, k = wN1.heap.size := ⟨_, rfl⟩
              rw [← hk5] at c5N2 hk5lo hk5Q ⊢
              have hk5p : k5 ≠ p := by omega
              have HK5 := Lib.hid hk5
              clear hk5
              refine hK.out _ _ cQN2.c (fun _ => ?_)
              clear hK K
              refine wpAnyH_only 3 (by kernel_rfl) rfl (fun K hK => ?_)
              go_simp
              have FA : ∃ N, N = wN2.alloc (.cells #[(.int .i64 0)] 3) ∧ But p wN2 N ∧ CellV N wN2.heap.size (.int .i64 0) := ⟨_, rfl, (But.refl _ _).alloc _, CellV.made _ _ _ (by decide)⟩
              obtain ⟨wN3, hW, hbN3, c4N3⟩ := FA
              have hwW : ∀ o, o = Value.pointer (some ⟨wN2.heap.size, 0, none⟩) → o = o := fun _ _ => rfl
              rw [← hW]
              have HPN3 := Lib.hid (HPN2.out.below (show Below wN2.heap.size wN2 wN3 by rw [hW]; exact (Below.refl _ _).alloc (Nat.le_refl _) _))
              have hbutN3 := hbutN2.trans hbN3
              have cQN3 := cQN2.but hbN3 hQp
              have hk4lo : w.heap.size ≤ wN2.heap.size := hbutN2.size
              have hk4Q : wN2.heap.size ≠ Q := fun e => by have := cQN2.lt; omega
              clear hW hwW
              have c5N3 := c5N2.but hbN3 hk5p
              have hk45 : wN2.heap.size ≠ k5 := fun e => by have := c5N2.lt; omega
              obtain ⟨k4, hk4⟩ : ∃ k, k = wN2.heap.size := ⟨_, rfl⟩
              rw [← hk4] at c4N3 hk4lo hk4Q ⊢
              rw [← hk4] at hk45
              have hk4p : k4 ≠ p := by omega
              have HK4 := Lib.hid hk4
              clear hk4
              refine hK.out _ _ cQN3.c (fun _ => ?_)
              clear hK K
              have hk45' : k4 ≠ k5 := fun e => hk45 (by omega)
              refine wpAnyH_only 5 (by kernel_rfl) rfl (fun K hK => ?_)
              have y4 := c4N3.c
              have y4z := c4N3.z
              go_simp
              refine hK.out _ _ (cQN3.other (j := k4) hk4Q.symm _).c (fun _ => ?_)
              clear hK K y4 y4z
              have c4S := c4N3.same (.int .i64 mv)
              have c5S := c5N3.other (j := k4) hk45'.symm (.int .i64 mv)
              have cQS := cQN3.other (j := k4) hk4Q.symm (.int .i64 mv)
              have hbutS := hbutN3.put hk4lo (.int .i64 mv)
              have HPS := Lib.hid (HPN3.out.put hk4p c4N3.n (.int .i64 mv))
              generalize wN3.setCell ⟨k4, 0, none⟩ (.int .i64 mv) = wS at c4S c5S cQS hbutS HPS ⊢
              refine wpAnyH_only 6 (by kernel_rfl) rfl (fun K hK => ?_)
              have y5 := c5S.c
              have y5z := c5S.z
              go_simp
              refine hK.out _ _ (cQS.other (j := k5) hk5Q.symm _).c (fun _ => ?_)
              clear hK K y5 y5z
              have c4T := c4S.other (j := k5) hk45' (.func (.func kf) #[] cpf)
              have c5T := c5S.same (.func (.func kf) #[] cpf)
              have cQT := cQS.other (j := k5) hk5Q.symm (.func (.func kf) #[] cpf)
              have hbutT := hbutS.put hk5lo (.func (.func kf) #[] cpf)
              have HPT := Lib.hid (HPS.out.put hk5p c5S.n (.func (.func kf) #[] cpf))
              generalize wS.setCell ⟨k5, 0, none⟩ (.func (.func kf) #[] cpf) = wT at c4T c5T cQT hbutT HPT ⊢
              refine wpAnyH_done (by kernel_rfl) ?_ _
              have y4 := c4T.c
              have yQ := cQT.c
              have yQz := cQT.z
              by_cases hm0 : mv = 0
              · have hr0 : r = none := by rw [← HR.out, pRel, HO.out]; dsimp only; unfold pMod; rw [HM.out, if_pos rfl, HN.out]; simp [hm0]
                have HR0 := Lib.hid hr0
                subst hm0
                clear hr0
                go_wp2
                refine ⟨rfl, ?_, hbutT⟩
                rw [HR0.out]
              · have hmz : ((mv : Int) == 0) = false := by simp; omega
                have hre : pRel (c :: t) = match pManner t3 with
                    | none => none
                    | some ((i, nt), v) => some ((fun x => i (modF F mv x) != nt), v) := by
                  rw [pRel, HO.out]; dsimp only; unfold pMod; rw [HM.out, if_pos rfl, HN.out]; simp only [if_neg hm0]; rfl
                have HRE := Lib.hid hre
                have hm1 : 0 < mv := by omega
                clear hre hm0
                have cU := cQT.same (.func (.func 95) #[] #[.pointer (some ⟨k5, 0, none⟩), .pointer (some ⟨k4, 0, none⟩)])
                have hbutU := hbutT.put (show w.heap.size ≤ Q by have := HQ.out; omega) (.func (.func 95) #[] #[.pointer (some ⟨k5, 0, none⟩), .pointer (some ⟨k4, 0, none⟩)])
                have HPU := Lib.hid (HPT.out.put hQp cQT.n (.func (.func 95) #[] #[.pointer (some ⟨k5, 0, none⟩), .pointer (some ⟨k4, 0, none⟩)]))
                have c4U := c4T.other (j := Q) hk4Q (.func (.func 95) #[] #[.pointer (some ⟨k5, 0, none⟩), .pointer (some ⟨k4, 0, none⟩)])
                have c5U := c5T.other (j := Q) hk5Q (.func (.func 95) #[] #[.pointer (some ⟨k5, 0, none⟩), .pointer (some ⟨k4, 0, none⟩)])
                go_wp2_with fail
                generalize wT.setCell ⟨Q, 0, none⟩ (.func (.func 95) #[] #[.pointer (some ⟨k5, 0, none⟩), .pointer (some ⟨k4, 0, none⟩)]) = wU at cU hbutU HPU c4U c5U ⊢
                have hFU : OpR w.heap.size wU.heap.size wU (.func (.func 95) #[] #[.pointer (some ⟨k5, 0, none⟩), .pointer (some ⟨k4, 0, none⟩)]) (modF F mv) :=
                  ⟨95, _, rfl, fun args w => enters_of Tryz.func95 (by kernel_rfl) rfl args w, fun W hW nv x hx =>
                    rel1_any nv x k5 k4 _ mv F 0 0 W hx hmv hm1 ((hW.cell (p := ⟨k5, 0, none⟩) hk5lo c5U.lt).trans c5U.c) ((hW.cell (p := ⟨k4, 0, none⟩) hk4lo c4U.lt).trans c4U.c) (HFV.out 0 0 W) (Nat.zero_le _)⟩
                have HFU := Lib.hid hFU
                have cQ := cU
                clear hFU y4 yQ yQz
                have HMAN := Lib.hid (manner_p p (t3) wU HPU.out (fun x h => HX.out x (List.mem_cons_of_mem _ (List.mem_of_mem_tail (hsub.mem x h)))) (HT.out.but hbutU) (by have hz1 := hsub.len; have hz2 : (t).tail.length ≤ (t).length := (by simp); omega))
                go_wp2_with fail
                refine HMAN.out.mono ?_
                rintro e w7 ⟨hq, hb7⟩
                have hbut7 := hbutU.trans hb7
                have hrr : r = match pManner (t3) with
                    | none => none
                    | some ((i, nt), v) => some ((fun x => i ((modF F mv) x) != nt), v) := by
                  rw [← HR.out]
                  exact HRE.out
                cases hn : pManner (t3) with
                | none =>
                  rw [hn] at hq hrr
                  obtain rfl := hq
                  have HRR := Lib.hid hrr
                  clear hrr hn
                  go_wp2
                  refine ⟨rfl, ?_, hbut7⟩
                  rw [HRR.out]
                | some q =>
                  obtain ⟨⟨Tm, nt⟩, t'⟩ := q
                  rw [hn] at hq hrr
                  obtain ⟨⟨v, rfl, htm⟩, hp7⟩ := hq
                  have HRR := Lib.hid hrr
                  have HTM := Lib.hid htm
                  have HP7 := Lib.hid hp7
                  have cQ7 := cQ.but hb7 hQp
                  have hQ7 := cQ7.lt
                  have HF7 := Lib.hid (OpR.keep (lo' := w.heap.size) (hi' := w7.heap.size) HFU.out (hb7.keep hlt (Nat.le_refl _)) (Nat.le_refl _) hb7.size)
                  obtain ⟨kt, cpt, rfl, _⟩ := htm
                  clear hrr hn hp7
                  go_wp2
                  go_ret
                  have hbA := hbut7.alloc (.cells #[.func (.func kt) #[] cpt] 118)
                  have hbB := hbA.alloc (.cells #[.bool nt] 4)
                  have hsA : (w7.alloc (.cells #[.func (.func kt) #[] cpt] 118)).heap.size = w7.heap.size + 1 := by simp
                  have hsB : ((w7.alloc (.cells #[.func (.func kt) #[] cpt] 118)).alloc (.cells #[.bool nt] 4)).heap.size = w7.heap.size + 2 := by simp
                  have hbAB : Below w7.heap.size w7 ((w7.alloc (.cells #[.func (.func kt) #[] cpt] 118)).alloc (.cells #[.bool nt] 4)) := ((Below.refl _ _).alloc (Nat.le_refl _) _).alloc (by simp) _
                  refine ⟨?_, hbB⟩
                  rw [HRR.out]
                  have hQw := HQ.out
                  have hw7 := hbut7.size
                  refine ⟨⟨_, rfl, 98, _, rfl, fun args w => enters_of Tryz.func98 (by kernel_rfl) rfl args w, fun W hW nv x hx => ?_⟩, HP7.out.below hbAB⟩
                  rw [hsB] at hW
                  have hk7 : KeepR w.heap.size w7.heap.size w7 W := hW.via (keep_below hbAB (Nat.le_refl _) (Nat.le_refl _)) (Nat.le_refl _) (by omega)
                  refine rel2_any nv x _ _ _ _ _ nt Tm ((modF F mv)) w.heap.size w7.heap.size W hx ((hW.cell ?_ ?_).trans ?_) ((hk7.cell ?_ hQ7).trans cQ7.c) ((hW.cell ?_ ?_).trans ?_) (HTM.out.keep (hk7.via (keep_refl (Nat.le_refl _)) (by have := hbutU.size; omega) (Nat.le_refl _)) (by have := hbutU.size; omega) (Nat.le_refl _)) (HF7.out.keep hk7 (Nat.le_refl _) (Nat.le_refl _)) hk7.1
                  all_goals first | (show w.heap.size ≤ w7.heap.size; omega) | (show w7.heap.size < w7.heap.size + 2; omega) | (show w.heap.size ≤ w7.heap.size + 1; omega) | (show w7.heap.size + 1 < w7.heap.size + 2; omega) | (show w.heap.size ≤ Q; omega) | (go_simp; done)
          · skip
            go_simp
            have FA : ∃ N, N = wD.alloc (.cells #[(.int .i64 0)] 3) ∧ But p wD N ∧ CellV N wD.heap.size (.int .i64 0) := ⟨_, rfl, (But.refl _ _).alloc _, CellV.made _ _ _ (by decide)⟩
            obtain ⟨wN1, hW, hbN1, c4N1⟩ := FA
            have hwW : ∀ o, o = Value.pointer (some ⟨wD.heap.size, 0, none⟩) → o = o := fun _ _ => rfl
            rw [← hW]
            have HPN1 := Lib.hid (HPD.out.below (show Below wD.heap.size wD wN1 by rw [hW]; exact (Below.refl _ _).alloc (Nat.le_refl _) _))
            have hbutN1 := hbutD.trans hbN1
            have cQN1 := cQD.but hbN1 hQp
            have hk4lo : w.heap.size ≤ wD.heap.size := hbutD.size
            have hk4Q : wD.heap.size ≠ Q := fun e => by have := cQD.lt; omega
            clear hW hwW
            obtain ⟨k4, hk4⟩ : ∃ k, k = wD.heap.size := ⟨_, rfl⟩
            rw [← hk4] at c4N1 hk4lo hk4Q ⊢
            have hk4p : k4 ≠ p := by omega
            have HK4 := Lib.hid hk4
            clear hk4
            refine hK.out _ _ cQN1.c (fun _ => ?_)
            clear hK K
            refine wpAnyH_ready (rs := [1, 4]) (by kernel_rfl) (by simp) (AllReadyH.cons rfl (fun K hK => ?_) (AllReadyH.cons rfl (fun K hK => ?_) AllReadyH.nil))
            · skip
              go_simp
              refine (HNUM.out wN1 hbutN1 HPN1.out).mono ?_
              rintro e wN2 ⟨hq, hbN2⟩
              rw [HN.out] at hq
              obtain ⟨rfl, hpc⟩ := hq
              have HPN2 := Lib.hid hpc
              have hbutN2 := hbutN1.trans hbN2
              have cQN2 := cQN1.but hbN2 hQp
              have c4N2 := c4N1.but hbN2 hk4p
              clear hpc
              refine hK.out _ _ cQN2.c (fun _ => ?_)
              clear hK K
              refine wpAnyH_only 4 (by kernel_rfl) rfl (fun K hK => ?_)
              go_simp
              have FA : ∃ N, N = wN2.alloc (.cells #[.nilFunc] 179) ∧ But p wN2 N ∧ CellV N wN2.heap.size .nilFunc := ⟨_, rfl, (But.refl _ _).alloc _, CellV.made _ _ _ (by decide)⟩
              obtain ⟨wN3, hW, hbN3, c5N3⟩ := FA
              have hwW : ∀ o, o = Value.pointer (some ⟨wN2.heap.size, 0, none⟩) → o = o := fun _ _ => rfl
              rw [← hW]
              have HPN3 := Lib.hid (HPN2.out.below (show Below wN2.heap.size wN2 wN3 by rw [hW]; exact (Below.refl _ _).alloc (Nat.le_refl _) _))
              have hbutN3 := hbutN2.trans hbN3
              have cQN3 := cQN2.but hbN3 hQp
              have hk5lo : w.heap.size ≤ wN2.heap.size := hbutN2.size
              have hk5Q : wN2.heap.size ≠ Q := fun e => by have := cQN2.lt; omega
              clear hW hwW
              have c4N3 := c4N2.but hbN3 hk4p
              have hk45 : wN2.heap.size ≠ k4 := fun e => by have := c4N2.lt; omega
              obtain ⟨k5, hk5⟩ : ∃ k, k = wN2.heap.size := ⟨_, rfl⟩
              rw [← hk5] at c5N3 hk5lo hk5Q ⊢
              rw [← hk5] at hk45
              have hk5p : k5 ≠ p := by omega
              have HK5 := Lib.hid hk5
              clear hk5
              refine hK.out _ _ cQN3.c (fun _ => ?_)
              clear hK K
              have hk45' : k4 ≠ k5 := fun e => hk45 (by omega)
              refine wpAnyH_only 5 (by kernel_rfl) rfl (fun K hK => ?_)
              have y4 := c4N3.c
              have y4z := c4N3.z
              go_simp
              refine hK.out _ _ (cQN3.other (j := k4) hk4Q.symm _).c (fun _ => ?_)
              clear hK K y4 y4z
              have c4S := c4N3.same (.int .i64 mv)
              have c5S := c5N3.other (j := k4) hk45'.symm (.int .i64 mv)
              have cQS := cQN3.other (j := k4) hk4Q.symm (.int .i64 mv)
              have hbutS := hbutN3.put hk4lo (.int .i64 mv)
              have HPS := Lib.hid (HPN3.out.put hk4p c4N3.n (.int .i64 mv))
              generalize wN3.setCell ⟨k4, 0, none⟩ (.int .i64 mv) = wS at c4S c5S cQS hbutS HPS ⊢
              refine wpAnyH_only 6 (by kernel_rfl) rfl (fun K hK => ?_)
              have y5 := c5S.c
              have y5z := c5S.z
              go_simp
              refine hK.out _ _ (cQS.other (j := k5) hk5Q.symm _).c (fun _ => ?_)
              clear hK K y5 y5z
              have c4T := c4S.other (j := k5) hk45' (.func (.func kf) #[] cpf)
              have c5T := c5S.same (.func (.func kf) #[] cpf)
              have cQT := cQS.other (j := k5) hk5Q.symm (.func (.func kf) #[] cpf)
              have hbutT := hbutS.put hk5lo (.func (.func kf) #[] cpf)
              have HPT := Lib.hid (HPS.out.put hk5p c5S.n (.func (.func kf) #[] cpf))
              generalize wS.setCell ⟨k5, 0, none⟩ (.func (.func kf) #[] cpf) = wT at c4T c5T cQT hbutT HPT ⊢
              refine wpAnyH_done (by kernel_rfl) ?_ _
              have y4 := c4T.c
              have yQ := cQT.c
              have yQz := cQT.z
              by_cases hm0 : mv = 0
              · have hr0 : r = none := by rw [← HR.out, pRel, HO.out]; dsimp only; unfold pMod; rw [HM.out, if_pos rfl, HN.out]; simp [hm0]
                have HR0 := Lib.hid hr0
                subst hm0
                clear hr0
                go_wp2
                refine ⟨rfl, ?_, hbutT⟩
                rw [HR0.out]
              · have hmz : ((mv : Int) == 0) = false := by simp; omega
                have hre : pRel (c :: t) = match pManner t3 with
                    | none => none
                    | some ((i, nt), v) => some ((fun x => i (modF F mv x) != nt), v) := by
                  rw [pRel, HO.out]; dsimp only; unfold pMod; rw [HM.out, if_pos rfl, HN.out]; simp only [if_neg hm0]; rfl
                have HRE := Lib.hid hre
                have hm1 : 0 < mv := by omega
                clear hre hm0
                have cU := cQT.same (.func (.func 95) #[] #[.pointer (some ⟨k5, 0, none⟩), .pointer (some ⟨k4, 0, none⟩)])
                have hbutU := hbutT.put (show w.heap.size ≤ Q by have := HQ.out; omega) (.func (.func 95) #[] #[.pointer (some ⟨k5, 0, none⟩), .pointer (some ⟨k4, 0, none⟩)])
                have HPU := Lib.hid (HPT.out.put hQp cQT.n (.func (.func 95) #[] #[.pointer (some ⟨k5, 0, none⟩), .pointer (some ⟨k4, 0, none⟩)]))
                have c4U := c4T.other (j := Q) hk4Q (.func (.func 95) #[] #[.pointer (some ⟨k5, 0, none⟩), .pointer (some ⟨k4, 0, none⟩)])
                have c5U := c5T.other (j := Q) hk5Q (.func (.func 95) #[] #[.pointer (some ⟨k5, 0, none⟩), .pointer (some ⟨k4, 0, none⟩)])
                go_wp2_with fail
                generalize wT.setCell ⟨Q, 0, none⟩ (.func (.func 95) #[] #[.pointer (some ⟨k5, 0, none⟩), .pointer (some ⟨k4, 0, none⟩)]) = wU at cU hbutU HPU c4U c5U ⊢
                have hFU : OpR w.heap.size wU.heap.size wU (.func (.func 95) #[] #[.pointer (some ⟨k5, 0, none⟩), .pointer (some ⟨k4, 0, none⟩)]) (modF F mv) :=
                  ⟨95, _, rfl, fun args w => enters_of Tryz.func95 (by kernel_rfl) rfl args w, fun W hW nv x hx =>
                    rel1_any nv x k5 k4 _ mv F 0 0 W hx hmv hm1 ((hW.cell (p := ⟨k5, 0, none⟩) hk5lo c5U.lt).trans c5U.c) ((hW.cell (p := ⟨k4, 0, none⟩) hk4lo c4U.lt).trans c4U.c) (HFV.out 0 0 W) (Nat.zero_le _)⟩
                have HFU := Lib.hid hFU
                have cQ := cU
                clear hFU y4 yQ yQz
                have HMAN := Lib.hid (manner_p p (t3) wU HPU.out (fun x h => HX.out x (List.mem_cons_of_mem _ (List.mem_of_mem_tail (hsub.mem x h)))) (HT.out.but hbutU) (by have hz1 := hsub.len; have hz2 : (t).tail.length ≤ (t).length := (by simp); omega))
                go_wp2_with fail
                refine HMAN.out.mono ?_
                rintro e w7 ⟨hq, hb7⟩
                have hbut7 := hbutU.trans hb7
                have hrr : r = match pManner (t3) with
                    | none => none
                    | some ((i, nt), v) => some ((fun x => i ((modF F mv) x) != nt), v) := by
                  rw [← HR.out]
                  exact HRE.out
                cases hn : pManner (t3) with
                | none =>
                  rw [hn] at hq hrr
                  obtain rfl := hq
                  have HRR := Lib.hid hrr
                  clear hrr hn
                  go_wp2
                  refine ⟨rfl, ?_, hbut7⟩
                  rw [HRR.out]
                | some q =>
                  obtain ⟨⟨Tm, nt⟩, t'⟩ := q
                  rw [hn] at hq hrr
                  obtain ⟨⟨v, rfl, htm⟩, hp7⟩ := hq
                  have HRR := Lib.hid hrr
                  have HTM := Lib.hid htm
                  have HP7 := Lib.hid hp7
                  have cQ7 := cQ.but hb7 hQp
                  have hQ7 := cQ7.lt
                  have HF7 := Lib.hid (OpR.keep (lo' := w.heap.size) (hi' := w7.heap.size) HFU.out (hb7.keep hlt (Nat.le_refl _)) (Nat.le_refl _) hb7.size)
                  obtain ⟨kt, cpt, rfl, _⟩ := htm
                  clear hrr hn hp7
                  go_wp2
                  go_ret
                  have hbA := hbut7.alloc (.cells #[.func (.func kt) #[] cpt] 118)
                  have hbB := hbA.alloc (.cells #[.bool nt] 4)
                  have hsA : (w7.alloc (.cells #[.func (.func kt) #[] cpt] 118)).heap.size = w7.heap.size + 1 := by simp
                  have hsB : ((w7.alloc (.cells #[.func (.func kt) #[] cpt] 118)).alloc (.cells #[.bool nt] 4)).heap.size = w7.heap.size + 2 := by simp
                  have hbAB : Below w7.heap.size w7 ((w7.alloc (.cells #[.func (.func kt) #[] cpt] 118)).alloc (.cells #[.bool nt] 4)) := ((Below.refl _ _).alloc (Nat.le_refl _) _).alloc (by simp) _
                  refine ⟨?_, hbB⟩
                  rw [HRR.out]
                  have hQw := HQ.out
                  have hw7 := hbut7.size
                  refine ⟨⟨_, rfl, 98, _, rfl, fun args w => enters_of Tryz.func98 (by kernel_rfl) rfl args w, fun W hW nv x hx => ?_⟩, HP7.out.below hbAB⟩
                  rw [hsB] at hW
                  have hk7 : KeepR w.heap.size w7.heap.size w7 W := hW.via (keep_below hbAB (Nat.le_refl _) (Nat.le_refl _)) (Nat.le_refl _) (by omega)
                  refine rel2_any nv x _ _ _ _ _ nt Tm ((modF F mv)) w.heap.size w7.heap.size W hx ((hW.cell ?_ ?_).trans ?_) ((hk7.cell ?_ hQ7).trans cQ7.c) ((hW.cell ?_ ?_).trans ?_) (HTM.out.keep (hk7.via (keep_refl (Nat.le_refl _)) (by have := hbutU.size; omega) (Nat.le_refl _)) (by have := hbutU.size; omega) (Nat.le_refl _)) (HF7.out.keep hk7 (Nat.le_refl _) (Nat.le_refl _)) hk7.1
                  all_goals first | (show w.heap.size ≤ w7.heap.size; omega) | (show w7.heap.size < w7.heap.size + 2; omega) | (show w.heap.size ≤ w7.heap.size + 1; omega) | (show w7.heap.size + 1 < w7.heap.size + 2; omega) | (show w.heap.size ≤ Q; omega) | (go_simp; done)
            · skip
              go_simp
              have FA : ∃ N, N = wN1.alloc (.cells #[.nilFunc] 179) ∧ But p wN1 N ∧ CellV N wN1.heap.size .nilFunc := ⟨_, rfl, (But.refl _ _).alloc _, CellV.made _ _ _ (by decide)⟩
              obtain ⟨wN2, hW, hbN2, c5N2⟩ := FA
              have hwW : ∀ o, o = Value.pointer (some ⟨wN1.heap.size, 0, none⟩) → o = o := fun _ _ => rfl
              rw [← hW]
              have HPN2 := Lib.hid (HPN1.out.below (show Below wN1.heap.size wN1 wN2 by rw [hW]; exact (Below.refl _ _).alloc (Nat.le_refl _) _))
              have hbutN2 := hbutN1.trans hbN2
              have cQN2 := cQN1.but hbN2 hQp
              have hk5lo : w.heap.size ≤ wN1.heap.size := hbutN1.size
              have hk5Q : wN1.heap.size ≠ Q := fun e => by have := cQN1.lt; omega
              clear hW hwW
              have c4N2 := c4N1.but hbN2 hk4p
              have hk45 : wN1.heap.size ≠ k4 := fun e => by have := c4N1.lt; omega
              obtain ⟨k5, hk5⟩ : ∃ k, k = wN1.heap.size := ⟨_, rfl⟩
              rw [← hk5] at c5N2 hk5lo hk5Q ⊢
              rw [← hk5] at hk45
              have hk5p : k5 ≠ p := by omega
              have HK5 := Lib.hid hk5
              clear hk5
              refine hK.out _ _ cQN2.c (fun _ => ?_)
              clear hK K
              refine wpAnyH_only 1 (by kernel_rfl) rfl (fun K hK => ?_)
              go_simp
              refine (HNUM.out wN2 hbutN2 HPN2.out).mono ?_
              rintro e wN3 ⟨hq, hbN3⟩
              rw [HN.out] at hq
              obtain ⟨rfl, hpc⟩ := hq
              have HPN3 := Lib.hid hpc
              have hbutN3 := hbutN2.trans hbN3
              have cQN3 := cQN2.but hbN3 hQp
              have c4N3 := c4N2.but hbN3 hk4p
              have c5N3 := c5N2.but hbN3 hk5p
              clear hpc
              refine hK.out _ _ cQN3.c (fun _ => ?_)
              clear hK K
              have hk45' : k4 ≠ k5 := fun e => hk45 (by omega)
              refine wpAnyH_only 5 (by kernel_rfl) rfl (fun K hK => ?_)
              have y4 := c4N3.c
              have y4z := c4N3.z
              go_simp
              refine hK.out _ _ (cQN3.other (j := k4) hk4Q.symm _).c (fun _ => ?_)
              clear hK K y4 y4z
              have c4S := c4N3.same (.int .i64 mv)
              have c5S := c5N3.other (j := k4) hk45'.symm (.int .i64 mv)
              have cQS := cQN3.other (j := k4) hk4Q.symm (.int .i64 mv)
              have hbutS := hbutN3.put hk4lo (.int .i64 mv)
              have HPS := Lib.hid (HPN3.out.put hk4p c4N3.n (.int .i64 mv))
              generalize wN3.setCell ⟨k4, 0, none⟩ (.int .i64 mv) = wS at c4S c5S cQS hbutS HPS ⊢
              refine wpAnyH_only 6 (by kernel_rfl) rfl (fun K hK => ?_)
              have y5 := c5S.c
              have y5z := c5S.z
              go_simp
              refine hK.out _ _ (cQS.other (j := k5) hk5Q.symm _).c (fun _ => ?_)
              clear hK K y5 y5z
              have c4T := c4S.other (j := k5) hk45' (.func (.func kf) #[] cpf)
              have c5T := c5S.same (.func (.func kf) #[] cpf)
              have cQT := cQS.other (j := k5) hk5Q.symm (.func (.func kf) #[] cpf)
              have hbutT := hbutS.put hk5lo (.func (.func kf) #[] cpf)
              have HPT := Lib.hid (HPS.out.put hk5p c5S.n (.func (.func kf) #[] cpf))
              generalize wS.setCell ⟨k5, 0, none⟩ (.func (.func kf) #[] cpf) = wT at c4T c5T cQT hbutT HPT ⊢
              refine wpAnyH_done (by kernel_rfl) ?_ _
              have y4 := c4T.c
              have yQ := cQT.c
              have yQz := cQT.z
              by_cases hm0 : mv = 0
              · have hr0 : r = none := by rw [← HR.out, pRel, HO.out]; dsimp only; unfold pMod; rw [HM.out, if_pos rfl, HN.out]; simp [hm0]
                have HR0 := Lib.hid hr0
                subst hm0
                clear hr0
                go_wp2
                refine ⟨rfl, ?_, hbutT⟩
                rw [HR0.out]
              · have hmz : ((mv : Int) == 0) = false := by simp; omega
                have hre : pRel (c :: t) = match pManner t3 with
                    | none => none
                    | some ((i, nt), v) => some ((fun x => i (modF F mv x) != nt), v) := by
                  rw [pRel, HO.out]; dsimp only; unfold pMod; rw [HM.out, if_pos rfl, HN.out]; simp only [if_neg hm0]; rfl
                have HRE := Lib.hid hre
                have hm1 : 0 < mv := by omega
                clear hre hm0
                have cU := cQT.same (.func (.func 95) #[] #[.pointer (some ⟨k5, 0, none⟩), .pointer (some ⟨k4, 0, none⟩)])
                have hbutU := hbutT.put (show w.heap.size ≤ Q by have := HQ.out; omega) (.func (.func 95) #[] #[.pointer (some ⟨k5, 0, none⟩), .pointer (some ⟨k4, 0, none⟩)])
                have HPU := Lib.hid (HPT.out.put hQp cQT.n (.func (.func 95) #[] #[.pointer (some ⟨k5, 0, none⟩), .pointer (some ⟨k4, 0, none⟩)]))
                have c4U := c4T.other (j := Q) hk4Q (.func (.func 95) #[] #[.pointer (some ⟨k5, 0, none⟩), .pointer (some ⟨k4, 0, none⟩)])
                have c5U := c5T.other (j := Q) hk5Q (.func (.func 95) #[] #[.pointer (some ⟨k5, 0, none⟩), .pointer (some ⟨k4, 0, none⟩)])
                go_wp2_with fail
                generalize wT.setCell ⟨Q, 0, none⟩ (.func (.func 95) #[] #[.pointer (some ⟨k5, 0, none⟩), .pointer (some ⟨k4, 0, none⟩)]) = wU at cU hbutU HPU c4U c5U ⊢
                have hFU : OpR w.heap.size wU.heap.size wU (.func (.func 95) #[] #[.pointer (some ⟨k5, 0, none⟩), .pointer (some ⟨k4, 0, none⟩)]) (modF F mv) :=
                  ⟨95, _, rfl, fun args w => enters_of Tryz.func95 (by kernel_rfl) rfl args w, fun W hW nv x hx =>
                    rel1_any nv x k5 k4 _ mv F 0 0 W hx hmv hm1 ((hW.cell (p := ⟨k5, 0, none⟩) hk5lo c5U.lt).trans c5U.c) ((hW.cell (p := ⟨k4, 0, none⟩) hk4lo c4U.lt).trans c4U.c) (HFV.out 0 0 W) (Nat.zero_le _)⟩
                have HFU := Lib.hid hFU
                have cQ := cU
                clear hFU y4 yQ yQz
                have HMAN := Lib.hid (manner_p p (t3) wU HPU.out (fun x h => HX.out x (List.mem_cons_of_mem _ (List.mem_of_mem_tail (hsub.mem x h)))) (HT.out.but hbutU) (by have hz1 := hsub.len; have hz2 : (t).tail.length ≤ (t).length := (by simp); omega))
                go_wp2_with fail
                refine HMAN.out.mono ?_
                rintro e w7 ⟨hq, hb7⟩
                have hbut7 := hbutU.trans hb7
                have hrr : r = match pManner (t3) with
                    | none => none
                    | some ((i, nt), v) => some ((fun x => i ((modF F mv) x) != nt), v) := by
                  rw [← HR.out]
                  exact HRE.out
                cases hn : pManner (t3) with
                | none =>
                  rw [hn] at hq hrr
                  obtain rfl := hq
                  have HRR := Lib.hid hrr
                  clear hrr hn
                  go_wp2
                  refine ⟨rfl, ?_, hbut7⟩
                  rw [HRR.out]
                | some q =>
                  obtain ⟨⟨Tm, nt⟩, t'⟩ := q
                  rw [hn] at hq hrr
                  obtain ⟨⟨v, rfl, htm⟩, hp7⟩ := hq
                  have HRR := Lib.hid hrr
                  have HTM := Lib.hid htm
                  have HP7 := Lib.hid hp7
                  have cQ7 := cQ.but hb7 hQp
                  have hQ7 := cQ7.lt
                  have HF7 := Lib.hid (OpR.keep (lo' := w.heap.size) (hi' := w7.heap.size) HFU.out (hb7.keep hlt (Nat.le_refl _)) (Nat.le_refl _) hb7.size)
                  obtain ⟨kt, cpt, rfl, _⟩ := htm
                  clear hrr hn hp7
                  go_wp2
                  go_ret
                  have hbA := hbut7.alloc (.cells #[.func (.func kt) #[] cpt] 118)
                  have hbB := hbA.alloc (.cells #[.bool nt] 4)
                  have hsA : (w7.alloc (.cells #[.func (.func kt) #[] cpt] 118)).heap.size = w7.heap.size + 1 := by simp
                  have hsB : ((w7.alloc (.cells #[.func (.func kt) #[] cpt] 118)).alloc (.cells #[.bool nt] 4)).heap.size = w7.heap.size + 2 := by simp
                  have hbAB : Below w7.heap.size w7 ((w7.alloc (.cells #[.func (.func kt) #[] cpt] 118)).alloc (.cells #[.bool nt] 4)) := ((Below.refl _ _).alloc (Nat.le_refl _) _).alloc (by simp) _
                  refine ⟨?_, hbB⟩
                  rw [HRR.out]
                  have hQw := HQ.out
                  have hw7 := hbut7.size
                  refine ⟨⟨_, rfl, 98, _, rfl, fun args w => enters_of Tryz.func98 (by kernel_rfl) rfl args w, fun W hW nv x hx => ?_⟩, HP7.out.below hbAB⟩
                  rw [hsB] at hW
                  have hk7 : KeepR w.heap.size w7.heap.size w7 W := hW.via (keep_below hbAB (Nat.le_refl _) (Nat.le_refl _)) (Nat.le_refl _) (by omega)
                  refine rel2_any nv x _ _ _ _ _ nt Tm ((modF F mv)) w.heap.size w7.heap.size W hx ((hW.cell ?_ ?_).trans ?_) ((hk7.cell ?_ hQ7).trans cQ7.c) ((hW.cell ?_ ?_).trans ?_) (HTM.out.keep (hk7.via (keep_refl (Nat.le_refl _)) (by have := hbutU.size; omega) (Nat.le_refl _)) (by have := hbutU.size; omega) (Nat.le_refl _)) (HF7.out.keep hk7 (Nat.le_refl _) (Nat.le_refl _)) hk7.1
                  all_goals first | (show w.heap.size ≤ w7.heap.size; omega) | (show w7.heap.size < w7.heap.size + 2; omega) | (show w.heap.size ≤ w7.heap.size + 1; omega) | (show w7.heap.size + 1 < w7.heap.size + 2; omega) | (show w.heap.size ≤ Q; omega) | (go_simp; done)
          · skip
            go_simp
            have FA : ∃ N, N = wD.alloc (.cells #[.nilFunc] 179) ∧ But p wD N ∧ CellV N wD.heap.size .nilFunc := ⟨_, rfl, (But.refl _ _).alloc _, CellV.made _ _ _ (by decide)⟩
            obtain ⟨wN1, hW, hbN1, c5N1⟩ := FA
            have hwW : ∀ o, o = Value.pointer (some ⟨wD.heap.size, 0, none⟩) → o = o := fun _ _ => rfl
            rw [← hW]
            have HPN1 := Lib.hid (HPD.out.below (show Below wD.heap.size wD wN1 by rw [hW]; exact (Below.refl _ _).alloc (Nat.le_refl _) _))
            have hbutN1 := hbutD.trans hbN1
            have cQN1 := cQD.but hbN1 hQp
            have hk5lo : w.heap.size ≤ wD.heap.size := hbutD.size
            have hk5Q : wD.heap.size ≠ Q := fun e => by have := cQD.lt; omega
            clear hW hwW
            obtain ⟨k5, hk5⟩ : ∃ k, k = wD.heap.size := ⟨_, rfl⟩
            rw [← hk5] at c5N1 hk5lo hk5Q ⊢
            have hk5p : k5 ≠ p := by omega
            have HK5 := Lib.hid hk5
            clear hk5
            refine hK.out _ _ cQN1.c (fun _ => ?_)
            clear hK K
            refine wpAnyH_ready (rs := [1, 3]) (by kernel_rfl) (by simp) (AllReadyH.cons rfl (fun K hK => ?_) (AllReadyH.cons rfl (fun K hK => ?_) AllReadyH.nil))
            · skip
              go_simp
              refine (HNUM.out wN1 hbutN1 HPN1.out).mono ?_
              rintro e wN2 ⟨hq, hbN2⟩
              rw [HN.out] at hq
              obtain ⟨rfl, hpc⟩ := hq
              have HPN2 := Lib.hid hpc
              have hbutN2 := hbutN1.trans hbN2
              have cQN2 := cQN1.but hbN2 hQp
              have c5N2 := c5N1.but hbN2 hk5p
              clear hpc
              refine hK.out _ _ cQN2.c (fun _ => ?_)
              clear hK K
              refine wpAnyH_only 3 (by kernel_rfl) rfl (fun K hK => ?_)
              go_simp
              have FA : ∃ N, N = wN2.alloc (.cells #[(.int .i64 0)] 3) ∧ But p wN2 N ∧ CellV N wN2.heap.size (.int .i64 0) := ⟨_, rfl, (But.refl _ _).alloc _, CellV.made _ _ _ (by decide)⟩
              obtain ⟨wN3, hW, hbN3, c4N3⟩ := FA
              have hwW : ∀ o, o = Value.pointer (some ⟨wN2.heap.size, 0, none⟩) → o = o := fun _ _ => rfl
              rw [← hW]
              have HPN3 := Lib.hid (HPN2.out.below (show Below wN2.heap.size wN2 wN3 by rw [hW]; exact (Below.refl _ _).alloc (Nat.le_refl _) _))
              have hbutN3 := hbutN2.trans hbN3
              have cQN3 := cQN2.but hbN3 hQp
              have hk4lo : w.heap.size ≤ wN2.heap.size := hbutN2.size
              have hk4Q : wN2.heap.size ≠ Q := fun e => by have := cQN2.lt; omega
              clear hW hwW
              have c5N3 := c5N2.but hbN3 hk5p
              have hk45 : wN2.heap.size ≠ k5 := fun e => by have := c5N2.lt; omega
              obtain ⟨k4, hk4⟩ : ∃ k, k = wN2.heap.size := ⟨_, rfl⟩
              rw [← hk4] at c4N3 hk4lo hk4Q ⊢
              rw [← hk4] at hk45
              have hk4p : k4 ≠ p := by omega
              have HK4 := Lib.hid hk4
              clear hk4
              refine hK.out _ _ cQN3.c (fun _ => ?_)
              clear hK K
              have hk45' : k4 ≠ k5 := fun e => hk45 (by omega)
              refine wpAnyH_only 5 (by kernel_rfl) rfl (fun K hK => ?_)
              have y4 := c4N3.c
              have y4z := c4N3.z
              go_simp
              refine hK.out _ _ (cQN3.other (j := k4) hk4Q.symm _).c (fun _ => ?_)
              clear hK K y4 y4z
              have c4S := c4N3.same (.int .i64 mv)
              have c5S := c5N3.other (j := k4) hk45'.symm (.int .i64 mv)
              have cQS := cQN3.other (j := k4) hk4Q.symm (.int .i64 mv)
              have hbutS := hbutN3.put hk4lo (.int .i64 mv)
              have HPS := Lib.hid (HPN3.out.put hk4p c4N3.n (.int .i64 mv))
              generalize wN3.setCell ⟨k4, 0, none⟩ (.int .i64 mv) = wS at c4S c5S cQS hbutS HPS ⊢
              refine wpAnyH_only 6 (by kernel_rfl) rfl (fun K hK => ?_)
              have y5 := c5S.c
              have y5z := c5S.z
              go_simp
              refine hK.out _ _ (cQS.other (j := k5) hk5Q.symm _).c (fun _ => ?_)
              clear hK K y5 y5z
              have c4T := c4S.other (j := k5) hk45' (.func (.func kf) #[] cpf)
              have c5T := c5S.same (.func (.func kf) #[] cpf)
              have cQT := cQS.other (j := k5) hk5Q.symm (.func (.func kf) #[] cpf)
              have hbutT := hbutS.put hk5lo (.func (.func kf) #[] cpf)
              have HPT := Lib.hid (HPS.out.put hk5p c5S.n (.func (.func kf) #[] cpf))
              generalize wS.setCell ⟨k5, 0, none⟩ (.func (.func kf) #[] cpf) = wT at c4T c5T cQT hbutT HPT ⊢
              refine wpAnyH_done (by kernel_rfl) ?_ _
              have y4 := c4T.c
              have yQ := cQT.c
              have yQz := cQT.z
              by_cases hm0 : mv = 0
              · have hr0 : r = none := by rw [← HR.out, pRel, HO.out]; dsimp only; unfold pMod; rw [HM.out, if_pos rfl, HN.out]; simp [hm0]
                have HR0 := Lib.hid hr0
                subst hm0
                clear hr0
                go_wp2
                refine ⟨rfl, ?_, hbutT⟩
                rw [HR0.out]
              · have hmz : ((mv : Int) == 0) = false := by simp; omega
                have hre : pRel (c :: t) = match pManner t3 with
                    | none => none
                    | some ((i, nt), v) => some ((fun x => i (modF F mv x) != nt), v) := by
                  rw [pRel, HO.out]; dsimp only; unfold pMod; rw [HM.out, if_pos rfl, HN.out]; simp only [if_neg hm0]; rfl
                have HRE := Lib.hid hre
                have hm1 : 0 < mv := by omega
                clear hre hm0
                have cU := cQT.same (.func (.func 95) #[] #[.pointer (some ⟨k5, 0, none⟩), .pointer (some ⟨k4, 0, none⟩)])
                have hbutU := hbutT.put (show w.heap.size ≤ Q by have := HQ.out; omega) (.func (.func 95) #[] #[.pointer (some ⟨k5, 0, none⟩), .pointer (some ⟨k4, 0, none⟩)])
                have HPU := Lib.hid (HPT.out.put hQp cQT.n (.func (.func 95) #[] #[.pointer (some ⟨k5, 0, none⟩), .pointer (some ⟨k4, 0, none⟩)]))
                have c4U := c4T.other (j := Q) hk4Q (.func (.func 95) #[] #[.pointer (some ⟨k5, 0, none⟩), .pointer (some ⟨k4, 0, none⟩)])
                have c5U := c5T.other (j := Q) hk5Q (.func (.func 95) #[] #[.pointer (some ⟨k5, 0, none⟩), .pointer (some ⟨k4, 0, none⟩)])
                go_wp2_with fail
                generalize wT.setCell ⟨Q, 0, none⟩ (.func (.func 95) #[] #[.pointer (some ⟨k5, 0, none⟩), .pointer (some ⟨k4, 0, none⟩)]) = wU at cU hbutU HPU c4U c5U ⊢
                have hFU : OpR w.heap.size wU.heap.size wU (.func (.func 95) #[] #[.pointer (some ⟨k5, 0, none⟩), .pointer (some ⟨k4, 0, none⟩)]) (modF F mv) :=
                  ⟨95, _, rfl, fun args w => enters_of Tryz.func95 (by kernel_rfl) rfl args w, fun W hW nv x hx =>
                    rel1_any nv x k5 k4 _ mv F 0 0 W hx hmv hm1 ((hW.cell (p := ⟨k5, 0, none⟩) hk5lo c5U.lt).trans c5U.c) ((hW.cell (p := ⟨k4, 0, none⟩) hk4lo c4U.lt).trans c4U.c) (HFV.out 0 0 W) (Nat.zero_le _)⟩
                have HFU := Lib.hid hFU
                have cQ := cU
                clear hFU y4 yQ yQz
                have HMAN := Lib.hid (manner_p p (t3) wU HPU.out (fun x h => HX.out x (List.mem_cons_of_mem _ (List.mem_of_mem_tail (hsub.mem x h)))) (HT.out.but hbutU) (by have hz1 := hsub.len; have hz2 : (t).tail.length ≤ (t).length := (by simp); omega))
                go_wp2_with fail
                refine HMAN.out.mono ?_
                rintro e w7 ⟨hq, hb7⟩
                have hbut7 := hbutU.trans hb7
                have hrr : r = match pManner (t3) with
                    | none => none
                    | some ((i, nt), v) => some ((fun x => i ((modF F mv) x) != nt), v) := by
                  rw [← HR.out]
                  exact HRE.out
                cases hn : pManner (t3) with
                | none =>
                  rw [hn] at hq hrr
                  obtain rfl := hq
                  have HRR := Lib.hid hrr
                  clear hrr hn
                  go_wp2
                  refine ⟨rfl, ?_, hbut7⟩
                  rw [HRR.out]
                | some q =>
                  obtain ⟨⟨Tm, nt⟩, t'⟩ := q
                  rw [hn] at hq hrr
                  obtain ⟨⟨v, rfl, htm⟩, hp7⟩ := hq
                  have HRR := Lib.hid hrr
                  have HTM := Lib.hid htm
                  have HP7 := Lib.hid hp7
                  have cQ7 := cQ.but hb7 hQp
                  have hQ7 := cQ7.lt
                  have HF7 := Lib.hid (OpR.keep (lo' := w.heap.size) (hi' := w7.heap.size) HFU.out (hb7.keep hlt (Nat.le_refl _)) (Nat.le_refl _) hb7.size)
                  obtain ⟨kt, cpt, rfl, _⟩ := htm
                  clear hrr hn hp7
                  go_wp2
                  go_ret
                  have hbA := hbut7.alloc (.cells #[.func (.func kt) #[] cpt] 118)
                  have hbB := hbA.alloc (.cells #[.bool nt] 4)
                  have hsA : (w7.alloc (.cells #[.func (.func kt) #[] cpt] 118)).heap.size = w7.heap.size + 1 := by simp
                  have hsB : ((w7.alloc (.cells #[.func (.func kt) #[] cpt] 118)).alloc (.cells #[.bool nt] 4)).heap.size = w7.heap.size + 2 := by simp
                  have hbAB : Below w7.heap.size w7 ((w7.alloc (.cells #[.func (.func kt) #[] cpt] 118)).alloc (.cells #[.bool nt] 4)) := ((Below.refl _ _).alloc (Nat.le_refl _) _).alloc (by simp) _
                  refine ⟨?_, hbB⟩
                  rw [HRR.out]
                  have hQw := HQ.out
                  have hw7 := hbut7.size
                  refine ⟨⟨_, rfl, 98, _, rfl, fun args w => enters_of Tryz.func98 (by kernel_rfl) rfl args w, fun W hW nv x hx => ?_⟩, HP7.out.below hbAB⟩
                  rw [hsB] at hW
                  have hk7 : KeepR w.heap.size w7.heap.size w7 W := hW.via (keep_below hbAB (Nat.le_refl _) (Nat.le_refl _)) (Nat.le_refl _) (by omega)
                  refine rel2_any nv x _ _ _ _ _ nt Tm ((modF F mv)) w.heap.size w7.heap.size W hx ((hW.cell ?_ ?_).trans ?_) ((hk7.cell ?_ hQ7).trans cQ7.c) ((hW.cell ?_ ?_).trans ?_) (HTM.out.keep (hk7.via (keep_refl (Nat.le_refl _)) (by have := hbutU.size; omega) (Nat.le_refl _)) (by have := hbutU.size; omega) (Nat.le_refl _)) (HF7.out.keep hk7 (Nat.le_refl _) (Nat.le_refl _)) hk7.1
                  all_goals first | (show w.heap.size ≤ w7.heap.size; omega) | (show w7.heap.size < w7.heap.size + 2; omega) | (show w.heap.size ≤ w7.heap.size + 1; omega) | (show w7.heap.size + 1 < w7.heap.size + 2; omega) | (show w.heap.size ≤ Q; omega) | (go_simp; done)
            · skip
              go_simp
              have FA : ∃ N, N = wN1.alloc (.cells #[(.int .i64 0)] 3) ∧ But p wN1 N ∧ CellV N wN1.heap.size (.int .i64 0) := ⟨_, rfl, (But.refl _ _).alloc _, CellV.made _ _ _ (by decide)⟩
              obtain ⟨wN2, hW, hbN2, c4N2⟩ := FA
              have hwW : ∀ o, o = Value.pointer (some ⟨wN1.heap.size, 0, none⟩) → o = o := fun _ _ => rfl
              rw [← hW]
              have HPN2 := Lib.hid (HPN1.out.below (show Below wN1.heap.size wN1 wN2 by rw [hW]; exact (Below.refl _ _).alloc (Nat.le_refl _) _))
              have hbutN2 := hbutN1.trans hbN2
              have cQN2 := cQN1.but hbN2 hQp
              have hk4lo : w.heap.size ≤ wN1.heap.size := hbutN1.size
              have hk4Q : wN1.heap.size ≠ Q := fun e => by have := cQN1.lt; omega
              clear hW hwW
              have c5N2 := c5N1.but hbN2 hk5p
              have hk45 : wN1.heap.size ≠ k5 := fun e => by have := c5N1.lt; omega
              obtain ⟨k4, hk4⟩ : ∃ k, k = wN1.heap.size := ⟨_, rfl⟩
              rw [← hk4] at c4N2 hk4lo hk4Q ⊢
              rw [← hk4] at hk45
              have hk4p : k4 ≠ p := by omega
              have HK4 := Lib.hid hk4
              clear hk4
              refine hK.out _ _ cQN2.c (fun _ => ?_)
              clear hK K
              refine wpAnyH_only 1 (by kernel_rfl) rfl (fun K hK => ?_)
              go_simp
              refine (HNUM.out wN2 hbutN2 HPN2.out).mono ?_
              rintro e wN3 ⟨hq, hbN3⟩
              rw [HN.out] at hq
              obtain ⟨rfl, hpc⟩ := hq
              have HPN3 := Lib.hid hpc
              have hbutN3 := hbutN2.trans hbN3
              have cQN3 := cQN2.but hbN3 hQp
              have c4N3 := c4N2.but hbN3 hk4p
              have c5N3 := c5N2.but hbN3 hk5p
              clear hpc
              refine hK.out _ _ cQN3.c (fun _ => ?_)
              clear hK K
              have hk45' : k4 ≠ k5 := fun e => hk45 (by omega)
              refine wpAnyH_only 5 (by kernel_rfl) rfl (fun K hK => ?_)
              have y4 := c4N3.c
              have y4z := c4N3.z
              go_simp
              refine hK.out _ _ (cQN3.other (j := k4) hk4Q.symm _).c (fun _ => ?_)
              clear hK K y4 y4z
              have c4S := c4N3.same (.int .i64 mv)
              have c5S := c5N3.other (j := k4) hk45'.symm (.int .i64 mv)
              have cQS := cQN3.other (j := k4) hk4Q.symm (.int .i64 mv)
              have hbutS := hbutN3.put hk4lo (.int .i64 mv)
              have HPS := Lib.hid (HPN3.out.put hk4p c4N3.n (.int .i64 mv))
              generalize wN3.setCell ⟨k4, 0, none⟩ (.int .i64 mv) = wS at c4S c5S cQS hbutS HPS ⊢
              refine wpAnyH_only 6 (by kernel_rfl) rfl (fun K hK => ?_)
              have y5 := c5S.c
              have y5z := c5S.z
              go_simp
              refine hK.out _ _ (cQS.other (j := k5) hk5Q.symm _).c (fun _ => ?_)
              clear hK K y5 y5z
              have c4T := c4S.other (j := k5) hk45' (.func (.func kf) #[] cpf)
              have c5T := c5S.same (.func (.func kf) #[] cpf)
              have cQT := cQS.other (j := k5) hk5Q.symm (.func (.func kf) #[] cpf)
              have hbutT := hbutS.put hk5lo (.func (.func kf) #[] cpf)
              have HPT := Lib.hid (HPS.out.put hk5p c5S.n (.func (.func kf) #[] cpf))
              generalize wS.setCell ⟨k5, 0, none⟩ (.func (.func kf) #[] cpf) = wT at c4T c5T cQT hbutT HPT ⊢
              refine wpAnyH_done (by kernel_rfl) ?_ _
              have y4 := c4T.c
              have yQ := cQT.c
              have yQz := cQT.z
              by_cases hm0 : mv = 0
              · have hr0 : r = none := by rw [← HR.out, pRel, HO.out]; dsimp only; unfold pMod; rw [HM.out, if_pos rfl, HN.out]; simp [hm0]
                have HR0 := Lib.hid hr0
                subst hm0
                clear hr0
                go_wp2
                refine ⟨rfl, ?_, hbutT⟩
                rw [HR0.out]
              · have hmz : ((mv : Int) == 0) = false := by simp; omega
                have hre : pRel (c :: t) = match pManner t3 with
                    | none => none
                    | some ((i, nt), v) => some ((fun x => i (modF F mv x) != nt), v) := by
                  rw [pRel, HO.out]; dsimp only; unfold pMod; rw [HM.out, if_pos rfl, HN.out]; simp only [if_neg hm0]; rfl
                have HRE := Lib.hid hre
                have hm1 : 0 < mv := by omega
                clear hre hm0
                have cU := cQT.same (.func (.func 95) #[] #[.pointer (some ⟨k5, 0, none⟩), .pointer (some ⟨k4, 0, none⟩)])
                have hbutU := hbutT.put (show w.heap.size ≤ Q by have := HQ.out; omega) (.func (.func 95) #[] #[.pointer (some ⟨k5, 0, none⟩), .pointer (some ⟨k4, 0, none⟩)])
                have HPU := Lib.hid (HPT.out.put hQp cQT.n (.func (.func 95) #[] #[.pointer (some ⟨k5, 0, none⟩), .pointer (some ⟨k4, 0, none⟩)]))
                have c4U := c4T.other (j := Q) hk4Q (.func (.func 95) #[] #[.pointer (some ⟨k5, 0, none⟩), .pointer (some ⟨k4, 0, none⟩)])
                have c5U := c5T.other (j := Q) hk5Q (.func (.func 95) #[] #[.pointer (some ⟨k5, 0, none⟩), .pointer (some ⟨k4, 0, none⟩)])
                go_wp2_with fail
                generalize wT.setCell ⟨Q, 0, none⟩ (.func (.func 95) #[] #[.pointer (some ⟨k5, 0, none⟩), .pointer (some ⟨k4, 0, none⟩)]) = wU at cU hbutU HPU c4U c5U ⊢
                have hFU : OpR w.heap.size wU.heap.size wU (.func (.func 95) #[] #[.pointer (some ⟨k5, 0, none⟩), .pointer (some ⟨k4, 0, none⟩)]) (modF F mv) :=
                  ⟨95, _, rfl, fun args w => enters_of Tryz.func95 (by kernel_rfl) rfl args w, fun W hW nv x hx =>
                    rel1_any nv x k5 k4 _ mv F 0 0 W hx hmv hm1 ((hW.cell (p := ⟨k5, 0, none⟩) hk5lo c5U.lt).trans c5U.c) ((hW.cell (p := ⟨k4, 0, none⟩) hk4lo c4U.lt).trans c4U.c) (HFV.out 0 0 W) (Nat.zero_le _)⟩
                have HFU := Lib.hid hFU
                have cQ := cU
                clear hFU y4 yQ yQz
                have HMAN := Lib.hid (manner_p p (t3) wU HPU.out (fun x h => HX.out x (List.mem_cons_of_mem _ (List.mem_of_mem_tail (hsub.mem x h)))) (HT.out.but hbutU) (by have hz1 := hsub.len; have hz2 : (t).tail.length ≤ (t).length := (by simp); omega))
                go_wp2_with fail
                refine HMAN.out.mono ?_
                rintro e w7 ⟨hq, hb7⟩
                have hbut7 := hbutU.trans hb7
                have hrr : r = match pManner (t3) with
                    | none => none
                    | some ((i, nt), v) => some ((fun x => i ((modF F mv) x) != nt), v) := by
                  rw [← HR.out]
                  exact HRE.out
                cases hn : pManner (t3) with
                | none =>
                  rw [hn] at hq hrr
                  obtain rfl := hq
                  have HRR := Lib.hid hrr
                  clear hrr hn
                  go_wp2
                  refine ⟨rfl, ?_, hbut7⟩
                  rw [HRR.out]
                | some q =>
                  obtain ⟨⟨Tm, nt⟩, t'⟩ := q
                  rw [hn] at hq hrr
                  obtain ⟨⟨v, rfl, htm⟩, hp7⟩ := hq
                  have HRR := Lib.hid hrr
                  have HTM := Lib.hid htm
                  have HP7 := Lib.hid hp7
                  have cQ7 := cQ.but hb7 hQp
                  have hQ7 := cQ7.lt
                  have HF7 := Lib.hid (OpR.keep (lo' := w.heap.size) (hi' := w7.heap.size) HFU.out (hb7.keep hlt (Nat.le_refl _)) (Nat.le_refl _) hb7.size)
                  obtain ⟨kt, cpt, rfl, _⟩ := htm
                  clear hrr hn hp7
                  go_wp2
                  go_ret
                  have hbA := hbut7.alloc (.cells #[.func (.func kt) #[] cpt] 118)
                  have hbB := hbA.alloc (.cells #[.bool nt] 4)
                  have hsA : (w7.alloc (.cells #[.func (.func kt) #[] cpt] 118)).heap.size = w7.heap.size + 1 := by simp
                  have hsB : ((w7.alloc (.cells #[.func (.func kt) #[] cpt] 118)).alloc (.cells #[.bool nt] 4)).heap.size = w7.heap.size + 2 := by simp
                  have hbAB : Below w7.heap.size w7 ((w7.alloc (.cells #[.func (.func kt) #[] cpt] 118)).alloc (.cells #[.bool nt] 4)) := ((Below.refl _ _).alloc (Nat.le_refl _) _).alloc (by simp) _
                  refine ⟨?_, hbB⟩
                  rw [HRR.out]
                  have hQw := HQ.out
                  have hw7 := hbut7.size
                  refine ⟨⟨_, rfl, 98, _, rfl, fun args w => enters_of Tryz.func98 (by kernel_rfl) rfl args w, fun W hW nv x hx => ?_⟩, HP7.out.below hbAB⟩
                  rw [hsB] at hW
                  have hk7 : KeepR w.heap.size w7.heap.size w7 W := hW.via (keep_below hbAB (Nat.le_refl _) (Nat.le_refl _)) (Nat.le_refl _) (by omega)
                  refine rel2_any nv x _ _ _ _ _ nt Tm ((modF F mv)) w.heap.size w7.heap.size W hx ((hW.cell ?_ ?_).trans ?_) ((hk7.cell ?_ hQ7).trans cQ7.c) ((hW.cell ?_ ?_).trans ?_) (HTM.out.keep (hk7.via (keep_refl (Nat.le_refl _)) (by have := hbutU.size; omega) (Nat.le_refl _)) (by have := hbutU.size; omega) (Nat.le_refl _)) (HF7.out.keep hk7 (Nat.le_refl _) (Nat.le_refl _)) hk7.1
                  all_goals first | (show w.heap.size ≤ w7.heap.size; omega) | (show w7.heap.size < w7.heap.size + 2; omega) | (show w.heap.size ≤ w7.heap.size + 1; omega) | (show w7.heap.size + 1 < w7.heap.size + 2; omega) | (show w.heap.size ≤ Q; omega) | (go_simp; done)

theorem relation_any (p : Nat) (ws : List Wd) (w : World) (hp : PAt w p ws) (hx : ∀ x ∈ ws, WOk x) (hT : RT p w) (hl : ws.length ≤ 1000) :
    Calls Tryz.prog 73 #[.pointer (some ⟨p, 0, none⟩)] w (ParseQ p (pRel ws) w) := by
  match ws, hp, hx, hl with
  | [], hp, _, _ => exact relation_nil p w hp
  | c :: t, hp, hx, hl => exact relation_cons p c t w hp hx hT (by simpa using hl)
end Go.Proofs.YtpepgmccbkkaaaaGreatDoor
