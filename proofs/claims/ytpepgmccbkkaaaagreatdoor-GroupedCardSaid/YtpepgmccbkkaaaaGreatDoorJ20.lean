import Derived.Test.YtpepgmccbkkaaaaGreatDoorJ19
import Derived.Maps.AppendAt
import Derived.Deep.LoopGhost

/- plural's parser: rows of tests; lists of numbers. -/
namespace Go.Proofs.YtpepgmccbkkaaaaGreatDoor
open Go Go.RowKit
set_option maxRecDepth 10000

theorem elem_tests : Elem Tryz.prog 175 118 .nilFunc 1 8 :=
  ⟨Tryz.underlying175, info_parts (by kernel_rfl), rfl, by decide, by decide⟩

/-- append, with the place of the new row -/
theorem app_own_at {P : Program} {t e : TypeId} {z : Value} {size bytes : Nat} (E : Elem P t e z size bytes) {w : World} {ops : Array Oper} {rest : List Oper} {o : Oper} {a : Act} {Q : Exit → Act → World → Prop}
    (hgd : o.guard = none) (s x : Operand) (ho : o.op = .call { callee := .builtin .append, args := #[s, x], argTypes := #[t, t] })
    (base : Nat) (v : Value) (n : Nat) (xs : List Value) (hs : a.eval s = v) (hown : w.ownsRow base e size v n xs)
    (ad : Addr) (m c : Nat) (news : List Value) (hx : a.eval x = .slice (some ad) m c) (hl : news.length = m * size) (hnews : ∀ j u, news[j]? = some u → w.cell? (ad.add j) = some u) (h1 : ∀ u ∈ news, u.oneCell' = true)
    (h31 : n + m ≤ 2147483648) (hbase : base ≤ w.heap.size)
    (h : ∀ v' w', w'.ownsRow base e size v' (n + m) (xs ++ news) → w.grownBy w' v.ownBlock → (v'.ownBlock = v.ownBlock ∨ v'.ownBlock = some w.heap.size) → wpList P ops Q rest (a.put o.dst v') w') : wpList P ops Q (o :: rest) a w := by
  obtain ⟨i, hi, hz, h2, h3⟩ := E.info
  have hs4 := E.small
  refine wpList_append_own_at w hgd s x t ho base e i z size bytes E.under hi hz h2 h3 E.zsize E.pos v n xs hs hown ad m c news hx hl hnews h1 (by unfold maxLen; omega) ?_ hbase (fun v' w' a b _ d => h v' w' a b d)
  exact Nat.le_trans (Nat.mul_le_mul h31 hs4) (by decide)

/-- a row of tests, of the call's own; no test hangs on the row -/
def RowT (lo : Nat) (w : World) (sv : Value) (Ts : List Tst) : Prop :=
  ∃ vs : List Value, w.ownsRow lo 118 1 sv Ts.length vs ∧
    ∀ j (h : j < Ts.length), ∃ u l h', vs[j]? = some u ∧ lo ≤ l ∧ h' ≤ w.heap.size ∧ (∀ g, sv.ownBlock = some g → g < l ∨ h' ≤ g) ∧ TestR l h' w u Ts[j]

theorem RowT.nil (lo : Nat) (w : World) : RowT lo w (.slice none 0 0) [] := ⟨[], World.ownsRow_nil _ _ _ _, fun j h => absurd h (Nat.not_lt_zero j)⟩

theorem RowT.form {lo : Nat} {w : World} {sv : Value} {Ts : List Tst} (h : RowT lo w sv Ts) : ∃ a cap, sv = .slice a Ts.length cap := by
  obtain ⟨vs, ho, _⟩ := h
  exact own_slice ho

theorem RowT.but {lo p : Nat} {w w' : World} {sv : Value} {Ts : List Tst} (h : RowT lo w sv Ts) (hb : But p w w') (hp : p < lo) : RowT lo w' sv Ts := by
  obtain ⟨vs, ho, ht⟩ := h
  have hne : some p ≠ sv.ownBlock := fun e => by have := (ho.lt p e.symm).1; omega
  refine ⟨vs, ho.kept (row := some p) ⟨hb.os, hb.tape, hb.output, hb.size, fun i hi hn => hb.block i hi (fun e => hn (by rw [e]))⟩ (.inr (fun e => hne e.symm)), fun j hj => ?_⟩
  obtain ⟨u, l, h', e1, e2, e3, e4, e5⟩ := ht j hj
  exact ⟨u, l, h', e1, e2, Nat.le_trans e3 hb.size, e4, e5.keep (hb.keep (by omega) e3) (Nat.le_refl _) (Nat.le_refl _)⟩

/-- a test more -/
theorem RowT.more {lo l0 h0 : Nat} {w w1 w' : World} {sv sv' : Value} {Ts : List Tst} {T : Tst} {vs : List Value} {u : Value}
    (ht : ∀ j (h : j < Ts.length), ∃ u l h', vs[j]? = some u ∧ lo ≤ l ∧ h' ≤ w.heap.size ∧ (∀ g, sv.ownBlock = some g → g < l ∨ h' ≤ g) ∧ TestR l h' w u Ts[j]) (hvl : vs.length = Ts.length)
    (hT : TestR l0 h0 w u T) (hl0 : lo ≤ l0) (hh0 : h0 ≤ w.heap.size) (hg0 : ∀ g, sv.ownBlock = some g → g < l0 ∨ h0 ≤ g)
    (hb : Below w.heap.size w w1) (hgrow : w1.grownBy w' sv.ownBlock) (hat : sv'.ownBlock = sv.ownBlock ∨ sv'.ownBlock = some w1.heap.size) (ho : w'.ownsRow lo 118 1 sv' (Ts.length + 1) (vs ++ [u])) :
    RowT lo w' sv' (Ts ++ [T]) := by
  have hkeep : ∀ l h', h' ≤ w.heap.size → (∀ g, sv.ownBlock = some g → g < l ∨ h' ≤ g) → KeepR l h' w w' := by
    intro l h' hh hg
    refine ⟨Nat.le_trans hh (Nat.le_trans hb.size hgrow.size), fun k k1 k2 => ?_⟩
    rw [hgrow.block k (by have := hb.size; omega) (fun e => by rcases hg k e.symm with q | q <;> omega)]
    exact hb.block k (by omega)
  have hnew : ∀ l h', h' ≤ w.heap.size → (∀ g, sv.ownBlock = some g → g < l ∨ h' ≤ g) → ∀ g, sv'.ownBlock = some g → g < l ∨ h' ≤ g := by
    intro l h' hh hg g e
    rcases hat with q | q
    · exact hg g (q ▸ e)
    · rw [q] at e
      cases e
      exact .inr (Nat.le_trans hh hb.size)
  refine ⟨vs ++ [u], by simpa using ho, fun j hj => ?_⟩
  by_cases hjl : j < Ts.length
  · obtain ⟨x, l, h', e1, e2, e3, e4, e5⟩ := ht j hjl
    exact ⟨x, l, h', by rw [List.getElem?_append_left (by omega)]; exact e1, e2, Nat.le_trans e3 (Nat.le_trans hb.size hgrow.size), hnew l h' e3 e4, by rw [List.getElem_append_left hjl]; exact e5.keep (hkeep l h' e3 e4) (Nat.le_refl _) (Nat.le_refl _)⟩
  · have e : j = Ts.length := by simp at hj; omega
    subst e
    refine ⟨u, l0, h0, by rw [List.getElem?_append_right (by omega), hvl]; simp, hl0, Nat.le_trans hh0 (Nat.le_trans hb.size hgrow.size), hnew l0 h0 hh0 hg0, ?_⟩
    rw [List.getElem_append_right (by omega)]
    simpa using hT.keep (hkeep l0 h0 hh0 hg0) (Nat.le_refl _) (Nat.le_refl _)

theorem RowT.tests {lo cap : Nat} {w : World} {a : Option Addr} {Ts : List Tst} (h : RowT lo w (.slice a Ts.length cap) Ts) : TestsR lo w.heap.size w a Ts := by
  obtain ⟨vs, ho, ht⟩ := h
  intro j hj
  obtain ⟨u, l, h', e1, e2, e3, e4, e5⟩ := ht j hj
  obtain ⟨g, cap', hv, hg, hg2, hc⟩ := own_some ho (by omega)
  cases hv
  refine ⟨⟨g, 0, none⟩, u, rfl, ?_, hg, hg2, e5.keep (keep_refl e3) e2 e3⟩
  rw [addr_add0, hc j (by omega)]
  exact e1

theorem TestR.one {l h : Nat} {w : World} {v : Value} {T : Tst} (ht : TestR l h w v T) : v.oneCell' = true := by
  obtain ⟨k, cap, rfl, _⟩ := ht
  rfl

def ListQ (p : Nat) (r : Option (List Tst × List Wd)) (w : World) (e : Ending) (w' : World) : Prop :=
  (match r with | none => e = thrown | some (ts, t) => (∃ v, e = .returned v ∧ TestR w.heap.size w'.heap.size w' v (someT ts)) ∧ PAt w' p t) ∧ But p w w'

theorem But.grown {p : Nat} {w a b : World} {row : Option Nat} (h : But p w a) (hg : a.grownBy b row) (hr : ∀ k, row = some k → w.heap.size ≤ k) : But p w b :=
  ⟨hg.os.trans h.os, hg.tape.trans h.tape, hg.output.trans h.output, Nat.le_trans h.size hg.size, fun k hk hp => (hg.block k (Nat.lt_of_lt_of_le hk h.size) (fun e => by have := hr k e.symm; omega)).trans (h.block k hk hp)⟩

/-- the parser behind an append to a row of tests -/
theorem PAt.row {lo p n : Nat} {w w' : World} {sv : Value} {vs : List Value} {ws : List Wd} (h : PAt w p ws) (ho : w.ownsRow lo 118 1 sv n vs) (hp : p < lo) (hg : w.grownBy w' sv.ownBlock) : PAt w' p ws := by
  have hlt := h.lt
  have hpn : some p ≠ sv.ownBlock := fun e => by have := (ho.lt p e.symm).1; omega
  obtain ⟨a, cap, hc, hf, h1, h2, h3⟩ := h
  refine ⟨a, cap, hg.cell hc hpn, (World.frozen?_of_block (hg.block p hlt hpn)).trans hf, h1, h2, fun j hj => ?_⟩
  obtain ⟨b, e1, e2, e3⟩ := h3 j hj
  have hl := World.block_lt_of_cell? w _ e3
  rw [addr_add] at hl
  have hbn : some b.block ≠ sv.ownBlock := by
    intro e
    rcases ho.2 with ⟨hv, _⟩ | ⟨g, cp, cur, hv, _, hh, _⟩
    · rw [hv] at e; cases e
    · rw [hv] at e
      cases e
      obtain ⟨cs, fr, hs⟩ := e2.2
      rw [hh] at hs
      cases hs
  exact ⟨b, e1, ⟨e2.1, e2.2.of (hg.block _ hl hbn)⟩, hg.cell e3 (by rw [addr_add]; exact hbn)⟩

/-- the loop's relation -/
def ListRel (p : Nat) (wi : Bool) (r : Option (List Tst × List Wd)) (n0 : Nat) (w : World) (sv : Value) (more : Bool) (n : Nat) (wr : World) : Prop :=
  ∃ (Ts : List Tst) (ws : List Wd), RowT w.heap.size wr sv Ts ∧ PAt wr p ws ∧ But p w wr ∧ ws.length + Ts.length ≤ n0 ∧ (∀ x ∈ ws, WOk x) ∧ (more = true → ws.length < n ∧ pListGo wi n Ts ws = r) ∧ (more = false → some (Ts, ws) = r)

theorem strs_lit (w : World) (m : Wd) (g : Nat) (hg : w.cell? ⟨g, 0, none⟩ = some (strv m)) : StrsAt w (.slice (some ⟨g, 0, none⟩) 1 1) [m] :=
  ⟨some ⟨g, 0, none⟩, 1, rfl, Nat.le_refl _, by decide, (fun h => by cases h), fun j hj => by
    have : j = 0 := by simp at hj; omega
    subst this
    exact ⟨_, rfl, by simpa [Addr.add] using hg⟩⟩

/-- 'is' of one word that is known -/
theorem is_lit (p : Nat) (m : Wd) (ws : List Wd) (W : World) (hp : PAt W p ws) :
    Calls Tryz.prog 88 #[.pointer (some ⟨p, 0, none⟩), .slice (some ⟨W.heap.size, 0, none⟩) 1 1] (W.alloc (.cells #[strv m] 9))
      fun e w' => e = .returned (.bool (isW m ws)) ∧ PAt w' p (if isW m ws then ws.tail else ws) ∧ But p W w' := by
  have hb : Below W.heap.size W (W.alloc (.cells #[strv m] 9)) := (Below.refl _ _).alloc (Nat.le_refl _) _
  refine (is_any p [m] ws _ _ (hp.below hb) (strs_lit _ m _ (cell_made _ _ _ _ _)) (by simp)).mono ?_
  rintro e w' ⟨rfl, h1, h2, _⟩
  have e : anyW [m] ws = isW m ws := by simp [anyW]
  rw [e] at h1 ⊢
  exact ⟨rfl, h1, (But.of hb).trans h2⟩

set_option maxHeartbeats 2000000 in
theorem list_any (p : Nat) (wi : Bool) (ws : List Wd) (w : World) (hp : PAt w p ws) (hx : ∀ x ∈ ws, WOk x) (hT : RT p w) (hl : ws.length ≤ 1000) :
    Calls Tryz.prog 116 #[.pointer (some ⟨p, 0, none⟩), .bool wi] w (ListQ p (pListGo wi (ws.length + 1) [] ws) w) := by
  obtain ⟨r, hr⟩ : ∃ r, pListGo wi (ws.length + 1) [] ws = r := ⟨_, rfl⟩
  rw [hr]
  have HX := Lib.hid hx
  have HR := Lib.hid hr
  have hlt := hp.lt
  have HP := Lib.hid hp
  have HT := Lib.hid hT
  clear hr hx hp hT
  go_enter Tryz.func116, Tryz.ntmps116
  go_wp2
  go_loopg [5, 6] (ws.length + 1) (fun n sv mo wr => ∃ more : Bool, mo = .bool more ∧ ListRel p wi r (ws.length + 1) w sv more n wr)
  case atStart => exact ⟨true, rfl, [], ws, RowT.nil _ _, HP.out, But.refl _ _, by simp, HX.out, fun _ => ⟨by omega, HR.out⟩, fun h => by cases h⟩
  case round =>
    obtain ⟨more, rfl, Ts, us, hrow, hpa, hbut, hlen, hxs, hmo, hst⟩ := hrel
    have HROW := Lib.hid hrow
    have HPA := Lib.hid hpa
    have HXS := Lib.hid hxs
    obtain ⟨a, cap, rfl⟩ := hrow.form
    have hltr := hpa.lt
    cases more with
    | false =>
      have HST := Lib.hid (hst rfl)
      clear hst hmo hrow hpa hxs
      have hsm := some_any Ts a cap w.heap.size wr (by omega) hbut.size HROW.out.tests
      have HSM := Lib.hid hsm
      clear hsm
      go_wp2_with fail
      refine HSM.out.mono ?_
      rintro e w1 ⟨⟨v, rfl, ht⟩, hb1⟩
      have HTT := Lib.hid ht
      clear ht
      go_wp2
      go_ret
      rw [← HST.out]
      exact ⟨⟨⟨_, rfl, HTT.out⟩, HPA.out.below hb1⟩, hbut.below hb1⟩
    | true =>
      obtain ⟨hlg, hgo⟩ := hmo rfl
      obtain ⟨m, rfl⟩ : ∃ m, gk = m + 1 := ⟨gk - 1, by omega⟩
      have HGO := Lib.hid hgo
      have hnum := number_any p us wr hpa hxs (HT.out.but hbut)
      have HNUM := Lib.hid hnum
      clear hmo hst hgo hrow hpa hxs hnum
      go_wp2_with fail
      refine HNUM.out.mono ?_
      rintro e w1 ⟨hq, hb1⟩
      cases hn : pNum us with
      | none =>
        rw [hn] at hq
        obtain rfl := hq
        go_wp2
        refine ⟨rfl, ?_, hbut.trans hb1⟩
        have hr0 : r = none := by rw [← HGO.out, pListGo, pItem, hn]
        rw [hr0]
      | some q =>
        obtain ⟨va, t⟩ := q
        rw [hn] at hq
        obtain ⟨rfl, hp1⟩ := hq
        obtain ⟨hva, hsub, htl⟩ := pNum_small hn
        have hbut1 := hbut.trans hb1
        have HN := Lib.hid hn
        have HP1 := Lib.hid hp1
        have HROW1 := Lib.hid (HROW.out.but hb1 hlt)
        have HXT := Lib.hid (fun x hx => HXS.out x (hsub x hx))
        clear hn hp1 hsub
        go_wp2_with fail
        refine (is_lit p [46, 46] t _ HP1.out).mono ?_
        rintro e w2 ⟨rfl, hp2, hb2⟩
        have hbut2 := hbut1.trans hb2
        have HROW2 := Lib.hid (HROW1.out.but hb2 hlt)
        have HP2 := Lib.hid hp2
        clear hp2
        cases hd : isW [46, 46] t
        · have hq2 := HP2.out
          rw [hd] at hq2
          have HQ2 := Lib.hid hq2
          have hitem : pItem us = some ((va, va), t) := by rw [pItem, HN.out]; simp [hd]
          have HITM := Lib.hid hitem
          clear hq2 hd hitem
          have HIT := Lib.hid (HITM.out)
          have hle' : decide ((va : Int) < (va : Int)) = false := by first | (simp; done) | (simp; omega)
          have hspan := span_any va va wi w2 hva hva
          have HSP := Lib.hid hspan
          clear hspan
          go_wp2_with fail
          refine HSP.out.mono ?_
          rintro e w4 ⟨⟨fv, rfl, hft⟩, hb4⟩
          have hp4 := HQ2.out.below hb4
          have hbut4 := hbut2.below hb4
          have hrow4 := HROW2.out.but (But.of (p := p) hb4) hlt
          obtain ⟨vs, ho4, ht4⟩ := hrow4
          have HFT := Lib.hid hft
          have HP4 := Lib.hid hp4
          have HT4 := Lib.hid ht4
          have HO4 := Lib.hid ho4
          obtain ⟨kf, cpf, rfl, _⟩ := hft
          clear hp4 ht4 ho4
          go_wp2_with (at_builtin; refine app_own_at elem_tests rfl _ _ rfl w.heap.size _ Ts.length vs rfl (HO4.out.alloc _) ⟨w4.heap.size, 0, none⟩ 1 1 [.func (.func kf) #[] cpf] rfl rfl ?c1 ?c2 ?c3 ?c4 ?_)
          case c1 => exact cells_one (cell_made _ _ _ _ _)
          case c2 => intro u hu; simp at hu; subst hu; rfl
          case c3 => omega
          case c4 => have := hbut4.size; simp; omega
          intro sv' w5 ho5 hg5 hat5
          have hbA : Below w4.heap.size w4 (w4.alloc (.cells #[.func (.func kf) #[] cpf] 118)) := (Below.refl _ _).alloc (Nat.le_refl _) _
          have hownb : ∀ g, (Value.slice a Ts.length cap).ownBlock = some g → w.heap.size ≤ g ∧ g < w2.heap.size := fun g hg => by
            obtain ⟨_, ho3, _⟩ := HROW2.out
            exact ho3.lt g hg
          have hrow5 : RowT w.heap.size w5 sv' (Ts ++ [spanT va va wi]) :=
            RowT.more HT4.out (by have := HO4.out.1; omega) HFT.out (by have := hbut2.size; omega) (Nat.le_refl _) (fun g hg => .inl (hownb g hg).2) hbA hg5 (by simpa using hat5) ho5
          have hp5 : PAt w5 p t := (HP4.out.below hbA).row (HO4.out.alloc _) hlt hg5
          have hbut5 : But p w w5 := (hbut4.below hbA).grown hg5 (fun k hk => (hownb k hk).1)
          obtain ⟨a5, c5, rfl⟩ := own_slice ho5
          have HROW5 := Lib.hid hrow5
          have HP5 := Lib.hid hp5
          clear hrow5 hp5 ho5 hg5 hat5 hbA hownb
          go_wp2_with fail
          refine (is_lit p [44] t _ HP5.out).mono ?_
          rintro e w6 ⟨rfl, hp6, hb6⟩
          have hbut6 := hbut5.trans hb6
          have HROW6 := Lib.hid (HROW5.out.but hb6 hlt)
          have HSEQ := Lib.hid (show pListGo wi (m + 1) Ts us = if isW [44] t then pListGo wi m (Ts ++ [spanT va va wi]) (t).tail else some (Ts ++ [spanT va va wi], t) by rw [pListGo, HIT.out])
          have HP6 := Lib.hid hp6
          clear hp6
          cases hcm : isW [44] t
          · have hq6 := HP6.out
            rw [hcm] at hq6
            have hsq := HSEQ.out
            rw [hcm, HGO.out] at hsq
            have HQ6 := Lib.hid hq6
            have HSQ := Lib.hid hsq
            clear hcm hq6 hsq
            go_wp2
            go_roundg 0
            case measure => omega
            case rel => exact ⟨false, rfl, Ts ++ [spanT va va wi], t, by simpa using HROW6.out, HQ6.out, hbut6, by simp; omega, HXT.out, (fun h => by cases h), fun _ => HSQ.out.symm⟩
          · have hq6 := HP6.out
            rw [hcm] at hq6
            have hsq := HSEQ.out
            rw [hcm, HGO.out] at hsq
            have HQ6 := Lib.hid hq6
            have HSQ := Lib.hid hsq
            have hne : 0 < (t).length := by
              cases ht : t with
              | nil => rw [ht] at hcm; cases hcm
              | cons x y => simp
            clear hcm hq6 hsq
            go_wp2
            go_roundg m
            case measure => omega
            case rel => exact ⟨true, rfl, Ts ++ [spanT va va wi], (t).tail, by simpa using HROW6.out, HQ6.out, hbut6, by simp; omega, fun x hx => HXT.out x (List.mem_of_mem_tail hx), fun _ => ⟨by simp; omega, HSQ.out.symm⟩, fun h => by cases h⟩
        · have hq2 := HP2.out
          rw [hd] at hq2
          have HQ2 := Lib.hid hq2
          have HXTT := Lib.hid (fun x hx => HXT.out x (List.mem_of_mem_tail hx))
          have hnum2 := number_any p t.tail w2 HQ2.out HXTT.out (HT.out.but hbut2)
          have HNUM2 := Lib.hid hnum2
          have HD := Lib.hid hd
          clear hq2 hd hnum2
          go_wp2_with fail
          refine HNUM2.out.mono ?_
          rintro e w3 ⟨hq3, hb3⟩
          cases hn2 : pNum t.tail with
          | none =>
            rw [hn2] at hq3
            obtain rfl := hq3
            have hr0 : r = none := by rw [← HGO.out, pListGo, pItem, HN.out]; simp [HD.out, hn2]
            go_wp2
            refine ⟨rfl, ?_, hbut2.trans hb3⟩
            first | rfl | (rw [hr0])
          | some q =>
            obtain ⟨vb, t2⟩ := q
            rw [hn2] at hq3
            obtain ⟨rfl, hp3⟩ := hq3
            obtain ⟨hvb, hsub2, htl2⟩ := pNum_small hn2
            have htl3 : t2.length + 1 ≤ t.length := by
              have : t.tail.length ≤ t.length := by simp
              omega
            have hbut3 := hbut2.trans hb3
            have HROW3 := Lib.hid (HROW2.out.but hb3 hlt)
            have HP3 := Lib.hid hp3
            have HX3 := Lib.hid (fun x hx => HXTT.out x (hsub2 x hx))
            have hitem0 : pItem us = if vb < va then none else some ((va, vb), t2) := by rw [pItem, HN.out]; simp [HD.out, hn2]
            have HITM0 := Lib.hid hitem0
            clear hp3 hn2 hsub2 hitem0
            by_cases hba : vb < va
            · have hr0 : r = none := by rw [← HGO.out, pListGo, HITM0.out, if_pos hba]
              have hle' : decide ((vb : Int) < (va : Int)) = true := by simp; omega
              go_wp2
              refine ⟨rfl, ?_, hbut3⟩
              first | rfl | (rw [hr0])
            · have hitem := HITM0.out
              rw [if_neg hba] at hitem
              have HITM := Lib.hid hitem
              clear hitem
              have HIT := Lib.hid (HITM.out)
              have hle' : decide ((vb : Int) < (va : Int)) = false := by first | (simp; done) | (simp; omega)
              have hspan := span_any va vb wi w3 hva hvb
              have HSP := Lib.hid hspan
              clear hspan
              go_wp2_with fail
              refine HSP.out.mono ?_
              rintro e w4 ⟨⟨fv, rfl, hft⟩, hb4⟩
              have hp4 := HP3.out.below hb4
              have hbut4 := hbut3.below hb4
              have hrow4 := HROW3.out.but (But.of (p := p) hb4) hlt
              obtain ⟨vs, ho4, ht4⟩ := hrow4
              have HFT := Lib.hid hft
              have HP4 := Lib.hid hp4
              have HT4 := Lib.hid ht4
              have HO4 := Lib.hid ho4
              obtain ⟨kf, cpf, rfl, _⟩ := hft
              clear hp4 ht4 ho4
              go_wp2_with (at_builtin; refine app_own_at elem_tests rfl _ _ rfl w.heap.size _ Ts.length vs rfl (HO4.out.alloc _) ⟨w4.heap.size, 0, none⟩ 1 1 [.func (.func kf) #[] cpf] rfl rfl ?c1 ?c2 ?c3 ?c4 ?_)
              case c1 => exact cells_one (cell_made _ _ _ _ _)
              case c2 => intro u hu; simp at hu; subst hu; rfl
              case c3 => omega
              case c4 => have := hbut4.size; simp; omega
              intro sv' w5 ho5 hg5 hat5
              have hbA : Below w4.heap.size w4 (w4.alloc (.cells #[.func (.func kf) #[] cpf] 118)) := (Below.refl _ _).alloc (Nat.le_refl _) _
              have hownb : ∀ g, (Value.slice a Ts.length cap).ownBlock = some g → w.heap.size ≤ g ∧ g < w3.heap.size := fun g hg => by
                obtain ⟨_, ho3, _⟩ := HROW3.out
                exact ho3.lt g hg
              have hrow5 : RowT w.heap.size w5 sv' (Ts ++ [spanT va vb wi]) :=
                RowT.more HT4.out (by have := HO4.out.1; omega) HFT.out (by have := hbut3.size; omega) (Nat.le_refl _) (fun g hg => .inl (hownb g hg).2) hbA hg5 (by simpa using hat5) ho5
              have hp5 : PAt w5 p t2 := (HP4.out.below hbA).row (HO4.out.alloc _) hlt hg5
              have hbut5 : But p w w5 := (hbut4.below hbA).grown hg5 (fun k hk => (hownb k hk).1)
              obtain ⟨a5, c5, rfl⟩ := own_slice ho5
              have HROW5 := Lib.hid hrow5
              have HP5 := Lib.hid hp5
              clear hrow5 hp5 ho5 hg5 hat5 hbA hownb
              go_wp2_with fail
              refine (is_lit p [44] t2 _ HP5.out).mono ?_
              rintro e w6 ⟨rfl, hp6, hb6⟩
              have hbut6 := hbut5.trans hb6
              have HROW6 := Lib.hid (HROW5.out.but hb6 hlt)
              have HSEQ := Lib.hid (show pListGo wi (m + 1) Ts us = if isW [44] t2 then pListGo wi m (Ts ++ [spanT va vb wi]) (t2).tail else some (Ts ++ [spanT va vb wi], t2) by rw [pListGo, HIT.out])
              have HP6 := Lib.hid hp6
              clear hp6
              cases hcm : isW [44] t2
              · have hq6 := HP6.out
                rw [hcm] at hq6
                have hsq := HSEQ.out
                rw [hcm, HGO.out] at hsq
                have HQ6 := Lib.hid hq6
                have HSQ := Lib.hid hsq
                clear hcm hq6 hsq
                go_wp2
                go_roundg 0
                case measure => omega
                case rel => exact ⟨false, rfl, Ts ++ [spanT va vb wi], t2, by simpa using HROW6.out, HQ6.out, hbut6, by simp; omega, HX3.out, (fun h => by cases h), fun _ => HSQ.out.symm⟩
              · have hq6 := HP6.out
                rw [hcm] at hq6
                have hsq := HSEQ.out
                rw [hcm, HGO.out] at hsq
                have HQ6 := Lib.hid hq6
                have HSQ := Lib.hid hsq
                have hne : 0 < (t2).length := by
                  cases ht : t2 with
                  | nil => rw [ht] at hcm; cases hcm
                  | cons x y => simp
                clear hcm hq6 hsq
                go_wp2
                go_roundg m
                case measure => omega
                case rel => exact ⟨true, rfl, Ts ++ [spanT va vb wi], (t2).tail, by simpa using HROW6.out, HQ6.out, hbut6, by simp; omega, fun x hx => HX3.out x (List.mem_of_mem_tail hx), fun _ => ⟨by simp; omega, HSQ.out.symm⟩, fun h => by cases h⟩
end Go.Proofs.YtpepgmccbkkaaaaGreatDoor

/- plural's parser: how a relation is put. (Printed by wip/mkQ14.py) -/
namespace Go.Proofs.YtpepgmccbkkaaaaGreatDoor
open Go Go.RowKit
set_option maxRecDepth 10000

/-- words that are left of words -/
structure Sub (t ws : List Wd) : Prop where
  mem : ∀ x ∈ t, x ∈ ws
  len : t.length ≤ ws.length

theorem Sub.refl (ws : List Wd) : Sub ws ws := ⟨fun _ h => h, Nat.le_refl _⟩
theorem Sub.trans {a b c : List Wd} (h : Sub a b) (k : Sub b c) : Sub a c := ⟨fun x hx => k.mem x (h.mem x hx), Nat.le_trans h.len k.len⟩
theorem Sub.tail (ws : List Wd) : Sub ws.tail ws := ⟨fun _ h => List.mem_of_mem_tail h, by simp⟩

theorem pNum_sub {ws t : List Wd} {v : Nat} (h : pNum ws = some (v, t)) : Sub t ws := ⟨(pNum_small h).2.1, by have := (pNum_small h).2.2; omega⟩

theorem pItem_sub {ws t : List Wd} {q : Nat × Nat} (h : pItem ws = some (q, t)) : Sub t ws := by
  unfold pItem at h
  cases hn : pNum ws with
  | none => rw [hn] at h; cases h
  | some r =>
    obtain ⟨a, u⟩ := r
    rw [hn] at h
    dsimp only at h
    have hs := pNum_sub hn
    by_cases hd : isW [46, 46] u = true
    · rw [if_pos hd] at h
      cases hn2 : pNum u.tail with
      | none => rw [hn2] at h; cases h
      | some r2 =>
        obtain ⟨b, u2⟩ := r2
        rw [hn2] at h
        dsimp only at h
        by_cases hb : b < a
        · rw [if_pos hb] at h; cases h
        · rw [if_neg hb] at h
          cases h
          exact ((pNum_sub hn2).trans (Sub.tail u)).trans hs
    · rw [if_neg hd] at h
      cases h
      exact hs

theorem pListGo_sub {wi : Bool} : ∀ {n : Nat} {acc ts : List Tst} {ws t : List Wd}, pListGo wi n acc ws = some (ts, t) → Sub t ws
  | 0, _, _, _, _, h => by cases h
  | n + 1, acc, ts, ws, t, h => by
    rw [pListGo] at h
    cases hi : pItem ws with
    | none => rw [hi] at h; cases h
    | some r =>
      obtain ⟨q, u⟩ := r
      rw [hi] at h
      dsimp only at h
      by_cases hc : isW [44] u = true
      · rw [if_pos hc] at h
        exact ((pListGo_sub h).trans (Sub.tail u)).trans (pItem_sub hi)
      · rw [if_neg hc] at h
        cases h
        exact pItem_sub hi

theorem pList_sub {wi : Bool} {ws t : List Wd} {T : Tst} (h : pList wi ws = some (T, t)) : Sub t ws := by
  unfold pList at h
  cases hg : pListGo wi (ws.length + 1) [] ws with
  | none => rw [hg] at h; cases h
  | some r =>
    obtain ⟨ts, u⟩ := r
    rw [hg] at h
    cases h
    exact pListGo_sub hg

/-- what a parsing call makes -/
def ParseQ (p : Nat) (r : Option (Tst × List Wd)) (w : World) (e : Ending) (w' : World) : Prop :=
  (match r with | none => e = thrown | some (T, t) => (∃ v, e = .returned v ∧ TestR w.heap.size w'.heap.size w' v T) ∧ PAt w' p t) ∧ But p w w'

theorem plist_any (p : Nat) (wi : Bool) (ws : List Wd) (w : World) (hp : PAt w p ws) (hx : ∀ x ∈ ws, WOk x) (hT : RT p w) (hl : ws.length ≤ 1000) :
    Calls Tryz.prog 116 #[.pointer (some ⟨p, 0, none⟩), .bool wi] w (ParseQ p (pList wi ws) w) := by
  refine (list_any p wi ws w hp hx hT hl).mono ?_
  rintro e w' ⟨h, hb⟩
  refine ⟨?_, hb⟩
  unfold pList
  cases hg : pListGo wi (ws.length + 1) [] ws with
  | none => rw [hg] at h; exact h
  | some r =>
    obtain ⟨ts, u⟩ := r
    rw [hg] at h
    exact h

def MannerQ (p : Nat) (r : Option ((Tst × Bool) × List Wd)) (w : World) (e : Ending) (w' : World) : Prop :=
  (match r with | none => e = thrown | some ((T, nt), t) => (∃ v, e = .returned (.tuple #[v, .bool nt]) ∧ TestR w.heap.size w'.heap.size w' v T) ∧ PAt w' p t) ∧ But p w w'

set_option maxHeartbeats 4000000 in
theorem manner_p (p : Nat) (ws : List Wd) (w : World) (hp : PAt w p ws) (hx : ∀ x ∈ ws, WOk x) (hT : RT p w) (hl : ws.length ≤ 1000) :
    Calls Tryz.prog 97 #[.pointer (some ⟨p, 0, none⟩)] w (MannerQ p (pManner ws) w) := by
  obtain ⟨r, hr⟩ : ∃ r, pManner ws = r := ⟨_, rfl⟩
  rw [hr]
  have HX := Lib.hid hx
  have HR := Lib.hid hr
  have hlt := hp.lt
  have HP := Lib.hid hp
  have HT := Lib.hid hT
  clear hr hx hp hT
  go_enter Tryz.func97, Tryz.ntmps97
  have L1 : ws.tail.length ≤ 1000 := by simp; omega
  have L2 : ws.tail.tail.length ≤ 1000 := by simp; omega
  have M1 : ∀ x ∈ ws.tail, WOk x := fun x h => HX.out x (List.mem_of_mem_tail h)
  have M2 : ∀ x ∈ ws.tail.tail, WOk x := fun x h => M1 x (List.mem_of_mem_tail h)
  have HM1 := Lib.hid M1
  have HM2 := Lib.hid M2
  clear M1 M2
  go_wp2_with fail
  refine (is_lit p [61] (ws) _ HP.out).mono ?_
  rintro e w1 ⟨rfl, hp1, hb1⟩
  have hbut1 := hb1
  have HPX1 := Lib.hid hp1
  clear hp1
  cases e1 : isW [61] (ws)
  · have hq := HPX1.out
    rw [e1] at hq
    have HP1 := Lib.hid hq
    have E1 := Lib.hid e1
    clear hq e1
    go_wp2_with fail
    refine (is_lit p [33, 61] (ws) _ HP1.out).mono ?_
    rintro e w2 ⟨rfl, hp2, hb2⟩
    have hbut2 := hbut1.trans hb2
    have HPX2 := Lib.hid hp2
    clear hp2
    cases e2 : isW [33, 61] (ws)
    · have hq := HPX2.out
      rw [e2] at hq
      have HP2 := Lib.hid hq
      have E2 := Lib.hid e2
      clear hq e2
      go_wp2_with fail
      refine (is_lit p [105, 115] (ws) _ HP2.out).mono ?_
      rintro e w3 ⟨rfl, hp3, hb3⟩
      have hbut3 := hbut2.trans hb3
      have HPX3 := Lib.hid hp3
      clear hp3
      cases e3 : isW [105, 115] (ws)
      · have hq := HPX3.out
        rw [e3] at hq
        have HP3 := Lib.hid hq
        have E3 := Lib.hid e3
        clear hq e3
        go_wp2_with fail
        refine (is_lit p [110, 111, 116] (ws) _ HP3.out).mono ?_
        rintro e w4 ⟨rfl, hp4, hb4⟩
        have hbut4 := hbut3.trans hb4
        have HPX4 := Lib.hid hp4
        clear hp4
        cases e4 : isW [110, 111, 116] (ws)
        · have hq := HPX4.out
          rw [e4] at hq
          have HP4 := Lib.hid hq
          have E4 := Lib.hid e4
          clear hq e4
          go_wp2_with fail
          refine (is_lit p [119, 105, 116, 104, 105, 110] (ws) _ HP4.out).mono ?_
          rintro e w5 ⟨rfl, hp5, hb5⟩
          have hbut5 := hbut4.trans hb5
          have HPX5 := Lib.hid hp5
          clear hp5
          cases e5 : isW [119, 105, 116, 104, 105, 110] (ws)
          · have hq := HPX5.out
            rw [e5] at hq
            have HP5 := Lib.hid hq
            have E5 := Lib.hid e5
            clear hq e5
            go_wp2_with fail
            refine (is_lit p [105, 110] (ws) _ HP5.out).mono ?_
            rintro e w6 ⟨rfl, hp6, hb6⟩
            have hbut6 := hbut5.trans hb6
            have HPX6 := Lib.hid hp6
            clear hp6
            cases e6 : isW [105, 110] (ws)
            · have hq := HPX6.out
              rw [e6] at hq
              have HP6 := Lib.hid hq
              have E6 := Lib.hid e6
              clear hq e6
              have hr0 : r = none := by
                rw [← HR.out]
                simp [pManner, E1.out, E2.out, E3.out, E4.out, E5.out, E6.out]
              have HR0 := Lib.hid hr0
              clear hr0
              go_wp2
              refine ⟨rfl, ?_, hbut6⟩
              rw [HR0.out]
            · have hq := HPX6.out
              rw [e6] at hq
              have HP6 := Lib.hid hq
              have E6 := Lib.hid e6
              clear hq e6
              have hlst := plist_any p false (ws.tail) w6 HP6.out HM1.out (HT.out.but hbut6) L1
              have HL := Lib.hid hlst
              clear hlst
              go_wp2_with fail
              refine HL.out.mono ?_
              rintro e w7 ⟨hq, hb7⟩
              have hbut7 := hbut6.trans hb7
              have hrr : r = (pList false (ws.tail)).map fun q => ((q.1, false), q.2) := by
                rw [← HR.out]
                simp [pManner, E1.out, E2.out, E3.out, E4.out, E5.out, E6.out]
              have HRR := Lib.hid hrr
              clear hrr
              cases hn : pList false (ws.tail) with
              | none =>
                rw [hn] at hq
                obtain rfl := hq
                have hr0 := HRR.out
                rw [hn] at hr0
                have HR0 := Lib.hid hr0
                clear hr0 hn
                go_wp2
                refine ⟨rfl, ?_, hbut7⟩
                rw [HR0.out]
                rfl
              | some q =>
                obtain ⟨T, t⟩ := q
                rw [hn] at hq
                obtain ⟨⟨v, rfl, ht⟩, hpp⟩ := hq
                have hr0 := HRR.out
                rw [hn] at hr0
                have HR0 := Lib.hid hr0
                have HTT := Lib.hid ht
                have HPP := Lib.hid hpp
                clear hr0 hn ht hpp
                go_wp2
                go_ret2
                refine ⟨?_, hbut7⟩
                rw [HR0.out]
                exact ⟨⟨v, rfl, HTT.out.keep (keep_refl (Nat.le_refl _)) hbut6.size (Nat.le_refl _)⟩, HPP.out⟩
          · have hq := HPX5.out
            rw [e5] at hq
            have HP5 := Lib.hid hq
            have E5 := Lib.hid e5
            clear hq e5
            have hlst := plist_any p true (ws.tail) w5 HP5.out HM1.out (HT.out.but hbut5) L1
            have HL := Lib.hid hlst
            clear hlst
            go_wp2_with fail
            refine HL.out.mono ?_
            rintro e w6 ⟨hq, hb6⟩
            have hbut6 := hbut5.trans hb6
            have hrr : r = (pList true (ws.tail)).map fun q => ((q.1, false), q.2) := by
              rw [← HR.out]
              simp [pManner, E1.out, E2.out, E3.out, E4.out, E5.out]
            have HRR := Lib.hid hrr
            clear hrr
            cases hn : pList true (ws.tail) with
            | none =>
              rw [hn] at hq
              obtain rfl := hq
              have hr0 := HRR.out
              rw [hn] at hr0
              have HR0 := Lib.hid hr0
              clear hr0 hn
              go_wp2
              refine ⟨rfl, ?_, hbut6⟩
              rw [HR0.out]
              rfl
            | some q =>
              obtain ⟨T, t⟩ := q
              rw [hn] at hq
              obtain ⟨⟨v, rfl, ht⟩, hpp⟩ := hq
              have hr0 := HRR.out
              rw [hn] at hr0
              have HR0 := Lib.hid hr0
              have HTT := Lib.hid ht
              have HPP := Lib.hid hpp
              clear hr0 hn ht hpp
              go_wp2
              go_ret2
              refine ⟨?_, hbut6⟩
              rw [HR0.out]
              exact ⟨⟨v, rfl, HTT.out.keep (keep_refl (Nat.le_refl _)) hbut5.size (Nat.le_refl _)⟩, HPP.out⟩
        · have hq := HPX4.out
          rw [e4] at hq
          have HP4 := Lib.hid hq
          have E4 := Lib.hid e4
          clear hq e4
          go_wp2_with fail
          refine (is_lit p [119, 105, 116, 104, 105, 110] (ws.tail) _ HP4.out).mono ?_
          rintro e w5 ⟨rfl, hp5, hb5⟩
          have hbut5 := hbut4.trans hb5
          have HPX5 := Lib.hid hp5
          clear hp5
          cases e5 : isW [119, 105, 116, 104, 105, 110] (ws.tail)
          · have hq := HPX5.out
            rw [e5] at hq
            have HP5 := Lib.hid hq
            have E5 := Lib.hid e5
            clear hq e5
            go_wp2_with fail
            refine (is_lit p [105, 110] (ws.tail) _ HP5.out).mono ?_
            rintro e w6 ⟨rfl, hp6, hb6⟩
            have hbut6 := hbut5.trans hb6
            have HPX6 := Lib.hid hp6
            clear hp6
            cases e6 : isW [105, 110] (ws.tail)
            · have hq := HPX6.out
              rw [e6] at hq
              have HP6 := Lib.hid hq
              have E6 := Lib.hid e6
              clear hq e6
              have hr0 : r = none := by
                rw [← HR.out]
                simp [pManner, E1.out, E2.out, E3.out, E4.out, E5.out, E6.out]
              have HR0 := Lib.hid hr0
              clear hr0
              go_wp2
              refine ⟨rfl, ?_, hbut6⟩
              rw [HR0.out]
            · have hq := HPX6.out
              rw [e6] at hq
              have HP6 := Lib.hid hq
              have E6 := Lib.hid e6
              clear hq e6
              have hlst := plist_any p false (ws.tail.tail) w6 HP6.out HM2.out (HT.out.but hbut6) L2
              have HL := Lib.hid hlst
              clear hlst
              go_wp2_with fail
              refine HL.out.mono ?_
              rintro e w7 ⟨hq, hb7⟩
              have hbut7 := hbut6.trans hb7
              have hrr : r = (pList false (ws.tail.tail)).map fun q => ((q.1, true), q.2) := by
                rw [← HR.out]
                simp [pManner, E1.out, E2.out, E3.out, E4.out, E5.out, E6.out]
              have HRR := Lib.hid hrr
              clear hrr
              cases hn : pList false (ws.tail.tail) with
              | none =>
                rw [hn] at hq
                obtain rfl := hq
                have hr0 := HRR.out
                rw [hn] at hr0
                have HR0 := Lib.hid hr0
                clear hr0 hn
                go_wp2
                refine ⟨rfl, ?_, hbut7⟩
                rw [HR0.out]
                rfl
              | some q =>
                obtain ⟨T, t⟩ := q
                rw [hn] at hq
                obtain ⟨⟨v, rfl, ht⟩, hpp⟩ := hq
                have hr0 := HRR.out
                rw [hn] at hr0
                have HR0 := Lib.hid hr0
                have HTT := Lib.hid ht
                have HPP := Lib.hid hpp
                clear hr0 hn ht hpp
                go_wp2
                go_ret2
                refine ⟨?_, hbut7⟩
                rw [HR0.out]
                exact ⟨⟨v, rfl, HTT.out.keep (keep_refl (Nat.le_refl _)) hbut6.size (Nat.le_refl _)⟩, HPP.out⟩
          · have hq := HPX5.out
            rw [e5] at hq
            have HP5 := Lib.hid hq
            have E5 := Lib.hid e5
            clear hq e5
            have hlst := plist_any p true (ws.tail.tail) w5 HP5.out HM2.out (HT.out.but hbut5) L2
            have HL := Lib.hid hlst
            clear hlst
            go_wp2_with fail
            refine HL.out.mono ?_
            rintro e w6 ⟨hq, hb6⟩
            have hbut6 := hbut5.trans hb6
            have hrr : r = (pList true (ws.tail.tail)).map fun q => ((q.1, true), q.2) := by
              rw [← HR.out]
              simp [pManner, E1.out, E2.out, E3.out, E4.out, E5.out]
            have HRR := Lib.hid hrr
            clear hrr
            cases hn : pList true (ws.tail.tail) with
            | none =>
              rw [hn] at hq
              obtain rfl := hq
              have hr0 := HRR.out
              rw [hn] at hr0
              have HR0 := Lib.hid hr0
              clear hr0 hn
              go_wp2
              refine ⟨rfl, ?_, hbut6⟩
              rw [HR0.out]
              rfl
            | some q =>
              obtain ⟨T, t⟩ := q
              rw [hn] at hq
              obtain ⟨⟨v, rfl, ht⟩, hpp⟩ := hq
              have hr0 := HRR.out
              rw [hn] at hr0
              have HR0 := Lib.hid hr0
              have HTT := Lib.hid ht
              have HPP := Lib.hid hpp
              clear hr0 hn ht hpp
              go_wp2
              go_ret2
              refine ⟨?_, hbut6⟩
              rw [HR0.out]
              exact ⟨⟨v, rfl, HTT.out.keep (keep_refl (Nat.le_refl _)) hbut5.size (Nat.le_refl _)⟩, HPP.out⟩
      · have hq := HPX3.out
        rw [e3] at hq
        have HP3 := Lib.hid hq
        have E3 := Lib.hid e3
        clear hq e3
        go_wp2_with fail
        refine (is_lit p [110, 111, 116] (ws.tail) _ HP3.out).mono ?_
        rintro e w4 ⟨rfl, hp4, hb4⟩
        have hbut4 := hbut3.trans hb4
        have HPX4 := Lib.hid hp4
        clear hp4
        cases e4 : isW [110, 111, 116] (ws.tail)
        · have hq := HPX4.out
          rw [e4] at hq
          have HP4 := Lib.hid hq
          have E4 := Lib.hid e4
          clear hq e4
          have hlst := number_any p (ws.tail) w4 HP4.out HM1.out (HT.out.but hbut4)
          have HL := Lib.hid hlst
          clear hlst
          go_wp2_with fail
          refine HL.out.mono ?_
          rintro e w5 ⟨hq, hb5⟩
          have hbut5 := hbut4.trans hb5
          have hrr : r = (pNum (ws.tail)).map fun q => ((spanT q.1 q.1 false, false), q.2) := by
            rw [← HR.out]
            simp [pManner, E1.out, E2.out, E3.out, E4.out]
          have HRR := Lib.hid hrr
          clear hrr
          cases hn : pNum (ws.tail) with
          | none =>
            rw [hn] at hq
            obtain rfl := hq
            have hr0 := HRR.out
            rw [hn] at hr0
            have HR0 := Lib.hid hr0
            clear hr0 hn
            go_wp2
            refine ⟨rfl, ?_, hbut5⟩
            rw [HR0.out]
            rfl
          | some q =>
            obtain ⟨va, t⟩ := q
            rw [hn] at hq
            obtain ⟨rfl, hpp⟩ := hq
            have hva := (pNum_small hn).1
            have hr0 := HRR.out
            rw [hn] at hr0
            have HR0 := Lib.hid hr0
            have HPP := Lib.hid hpp
            have HSPAN := Lib.hid (span_any va va false w5 hva hva)
            clear hr0 hn hpp
            go_wp2_with fail
            refine HSPAN.out.mono ?_
            rintro e w6 ⟨⟨v, rfl, ht⟩, hb6⟩
            have HTT := Lib.hid ht
            clear ht
            go_wp2
            go_ret2
            refine ⟨?_, hbut5.below hb6⟩
            rw [HR0.out]
            exact ⟨⟨v, rfl, HTT.out.keep (keep_refl (Nat.le_refl _)) hbut5.size (Nat.le_refl _)⟩, HPP.out.below hb6⟩
        · have hq := HPX4.out
          rw [e4] at hq
          have HP4 := Lib.hid hq
          have E4 := Lib.hid e4
          clear hq e4
          have hlst := number_any p (ws.tail.tail) w4 HP4.out HM2.out (HT.out.but hbut4)
          have HL := Lib.hid hlst
          clear hlst
          go_wp2_with fail
          refine HL.out.mono ?_
          rintro e w5 ⟨hq, hb5⟩
          have hbut5 := hbut4.trans hb5
          have hrr : r = (pNum (ws.tail.tail)).map fun q => ((spanT q.1 q.1 false, true), q.2) := by
            rw [← HR.out]
            simp [pManner, E1.out, E2.out, E3.out, E4.out]
          have HRR := Lib.hid hrr
          clear hrr
          cases hn : pNum (ws.tail.tail) with
          | none =>
            rw [hn] at hq
            obtain rfl := hq
            have hr0 := HRR.out
            rw [hn] at hr0
            have HR0 := Lib.hid hr0
            clear hr0 hn
            go_wp2
            refine ⟨rfl, ?_, hbut5⟩
            rw [HR0.out]
            rfl
          | some q =>
            obtain ⟨va, t⟩ := q
            rw [hn] at hq
            obtain ⟨rfl, hpp⟩ := hq
            have hva := (pNum_small hn).1
            have hr0 := HRR.out
            rw [hn] at hr0
            have HR0 := Lib.hid hr0
            have HPP := Lib.hid hpp
            have HSPAN := Lib.hid (span_any va va false w5 hva hva)
            clear hr0 hn hpp
            go_wp2_with fail
            refine HSPAN.out.mono ?_
            rintro e w6 ⟨⟨v, rfl, ht⟩, hb6⟩
            have HTT := Lib.hid ht
            clear ht
            go_wp2
            go_ret2
            refine ⟨?_, hbut5.below hb6⟩
            rw [HR0.out]
            exact ⟨⟨v, rfl, HTT.out.keep (keep_refl (Nat.le_refl _)) hbut5.size (Nat.le_refl _)⟩, HPP.out.below hb6⟩
    · have hq := HPX2.out
      rw [e2] at hq
      have HP2 := Lib.hid hq
      have E2 := Lib.hid e2
      clear hq e2
      have hlst := plist_any p false (ws.tail) w2 HP2.out HM1.out (HT.out.but hbut2) L1
      have HL := Lib.hid hlst
      clear hlst
      go_wp2_with fail
      refine HL.out.mono ?_
      rintro e w3 ⟨hq, hb3⟩
      have hbut3 := hbut2.trans hb3
      have hrr : r = (pList false (ws.tail)).map fun q => ((q.1, true), q.2) := by
        rw [← HR.out]
        simp [pManner, E1.out, E2.out]
      have HRR := Lib.hid hrr
      clear hrr
      cases hn : pList false (ws.tail) with
      | none =>
        rw [hn] at hq
        obtain rfl := hq
        have hr0 := HRR.out
        rw [hn] at hr0
        have HR0 := Lib.hid hr0
        clear hr0 hn
        go_wp2
        refine ⟨rfl, ?_, hbut3⟩
        rw [HR0.out]
        rfl
      | some q =>
        obtain ⟨T, t⟩ := q
        rw [hn] at hq
        obtain ⟨⟨v, rfl, ht⟩, hpp⟩ := hq
        have hr0 := HRR.out
        rw [hn] at hr0
        have HR0 := Lib.hid hr0
        have HTT := Lib.hid ht
        have HPP := Lib.hid hpp
        clear hr0 hn ht hpp
        go_wp2
        go_ret2
        refine ⟨?_, hbut3⟩
        rw [HR0.out]
        exact ⟨⟨v, rfl, HTT.out.keep (keep_refl (Nat.le_refl _)) hbut2.size (Nat.le_refl _)⟩, HPP.out⟩
  · have hq := HPX1.out
    rw [e1] at hq
    have HP1 := Lib.hid hq
    have E1 := Lib.hid e1
    clear hq e1
    have hlst := plist_any p false (ws.tail) w1 HP1.out HM1.out (HT.out.but hbut1) L1
    have HL := Lib.hid hlst
    clear hlst
    go_wp2_with fail
    refine HL.out.mono ?_
    rintro e w2 ⟨hq, hb2⟩
    have hbut2 := hbut1.trans hb2
    have hrr : r = (pList false (ws.tail)).map fun q => ((q.1, false), q.2) := by
      rw [← HR.out]
      simp [pManner, E1.out]
    have HRR := Lib.hid hrr
    clear hrr
    cases hn : pList false (ws.tail) with
    | none =>
      rw [hn] at hq
      obtain rfl := hq
      have hr0 := HRR.out
      rw [hn] at hr0
      have HR0 := Lib.hid hr0
      clear hr0 hn
      go_wp2
      refine ⟨rfl, ?_, hbut2⟩
      rw [HR0.out]
      rfl
    | some q =>
      obtain ⟨T, t⟩ := q
      rw [hn] at hq
      obtain ⟨⟨v, rfl, ht⟩, hpp⟩ := hq
      have hr0 := HRR.out
      rw [hn] at hr0
      have HR0 := Lib.hid hr0
      have HTT := Lib.hid ht
      have HPP := Lib.hid hpp
      clear hr0 hn ht hpp
      go_wp2
      go_ret2
      refine ⟨?_, hbut2⟩
      rw [HR0.out]
      exact ⟨⟨v, rfl, HTT.out.keep (keep_refl (Nat.le_refl _)) hbut1.size (Nat.le_refl _)⟩, HPP.out⟩
end Go.Proofs.YtpepgmccbkkaaaaGreatDoor
