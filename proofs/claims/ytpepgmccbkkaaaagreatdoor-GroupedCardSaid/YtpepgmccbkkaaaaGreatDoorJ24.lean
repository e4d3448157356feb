import Derived.Test.YtpepgmccbkkaaaaGreatDoorJ23
import Derived.Defers
import Derived.Recover

/- plural's condition: the test that a rule's text says; what its deferred function does. -/
namespace Go.Proofs.YtpepgmccbkkaaaaGreatDoor
open Go Go.RowKit
set_option maxRecDepth 10000

theorem assert_none (w : World) : (Instr.typeAssert (.iface 151 (.agg #[])) 20 151 true).run Tryz.prog w = .ok (.tuple #[.agg #[], .bool true]) w := by kernel_rfl

theorem catch_idle (B : Nat) (w : World) : CallsD Tryz.prog 67 #[.pointer (some ⟨B, 0, none⟩)] .returning w fun e u' w' => e = .returned (.tuple #[]) ∧ u' = .returning ∧ w' = w := by
  refine callsD_of_wpS Tryz.func67 rfl fun c₀ cs hu => ?_
  apply wpS_seq
  apply wpS_region
  simp [wpOpsS, go_sem, recoverD, hu, Tryz.ntmps67, Exit.thenS]
  refine wpS_of_wp ?_
  go_wp2
  cases c₀
  simp_all [bodyPostS, results, Tryz.results67]

set_option maxHeartbeats 4000000 in
theorem catch_none (B : Nat) (u : Value) (older : List PanicEntry) (w : World) (hc : w.cell? ⟨B, 0, none⟩ = some u) (hz : w.frozen? ⟨B, 0, none⟩ = false) :
    CallsD Tryz.prog 67 #[.pointer (some ⟨B, 0, none⟩)] (.panicking ({ v := .iface 151 (.agg #[]), recovered := false } :: older)) w fun e u' w' =>
      e = .returned (.tuple #[]) ∧ u' = .panicking ({ v := .iface 151 (.agg #[]), recovered := true } :: older) ∧ w' = (w.setCell ⟨B, 0, none⟩ .nilFunc).alloc (.cells #[] 151) := by
  have ha := assert_none
  refine callsD_of_wpS Tryz.func67 rfl fun c₀ cs hu => ?_
  apply wpS_seq
  apply wpS_region
  simp [wpOpsS, go_sem, recoverD, hu, Tryz.ntmps67, Exit.thenS]
  refine wpS_of_wp ?_
  simp only [Array.replicate, List.replicate, List.setIfInBounds_toArray, List.set_cons_zero, List.set_cons_succ, List.append_toArray, List.cons_append, List.nil_append, Act.put]
  have hlt : B < w.heap.size := World.block_lt_of_cell? w _ hc
  have hc' : (w.alloc (.cells #[] 151)).cell? ⟨B, 0, none⟩ = some u := (World.cell?_alloc_lt _ _ _ hlt).trans hc
  have hz' : (w.alloc (.cells #[] 151)).frozen? ⟨B, 0, none⟩ = false := (World.frozen?_of_block (Below.heap_alloc _ _ _ hlt)).trans hz
  go_wp2
  simp [bodyPostS, results, Tryz.results67]

/-! ### words -/
theorem sign_ok {l : List UInt8} {g : Wd} (h : signL l = some g) : WOk g ∧ 0 < g.length := by
  unfold signL at h
  split at h <;> cases h
  all_goals exact ⟨⟨by simp, by simp, .inr (by decide)⟩, by simp⟩

theorem tw_mem {p : UInt8 → Bool} : ∀ {t : List UInt8} {d : UInt8}, d ∈ t.takeWhile p → p d = true
  | [], _, h => by cases h
  | c :: t, d, h => by
    by_cases hc : p c = true
    · rw [List.takeWhile_cons_of_pos hc] at h
      rcases List.mem_cons.1 h with q | q
      · rw [q]; exact hc
      · exact tw_mem q
    · rw [List.takeWhile_cons_of_neg hc] at h; cases h

theorem class_dig_head {c : UInt8} {t : List UInt8} (h : classL c = 2 ∨ classL c = 3) : WOk (c :: t.takeWhile (fun d => classL d == classL c)) ∨ 1000 < (c :: t.takeWhile (fun d => classL d == classL c)).length := by
  by_cases hl : (c :: t.takeWhile (fun d => classL d == classL c)).length ≤ 1000
  · left
    refine ⟨by simp, hl, ?_⟩
    rcases h with h | h
    · left
      rw [List.all_cons, (class_dig c).1 h, Bool.true_and, List.all_eq_true]
      intro d hd
      have := tw_mem hd
      rw [h, beq_iff_eq] at this
      exact (class_dig d).1 this
    · right
      have : ¬ isDig c = true := fun e => by have := (class_dig c).2 e; omega
      simpa using this
  · right; omega

theorem takeWhile_len (p : UInt8 → Bool) (t : List UInt8) : (t.takeWhile p).length + (t.dropWhile p).length = t.length := by
  have := congrArg List.length (List.takeWhile_append_dropWhile (p := p) (l := t))
  rw [List.length_append] at this
  exact this

theorem tokGo_ok : ∀ (n : Nat) (acc : List Wd) (l : List UInt8) (ws : List Wd), tokGo n acc l = some ws → l.length ≤ 999 → (∀ x ∈ acc, WOk x) → (∀ x ∈ ws, WOk x) ∧ ws.length ≤ acc.length + l.length
  | n, acc, [], ws, h, _, ha => by
    rw [tokGo] at h
    cases h
    exact ⟨ha, by simp⟩
  | 0, acc, c :: t, ws, h, _, _ => by
    rw [tokGo] at h
    cases h
    all_goals (intro hh; cases hh)
  | n + 1, acc, c :: t, ws, h, hl, ha => by
    rw [tokGo] at h
    simp only [List.length_cons] at hl
    cases hs : signL (c :: t) with
    | some g =>
      rw [hs] at h
      dsimp only at h
      obtain ⟨hg, hg0⟩ := sign_ok hs
      have ih := tokGo_ok n (acc ++ [g]) ((c :: t).drop g.length) ws h (by simp; omega) (fun x hx => by
        rcases List.mem_append.1 hx with q | q
        · exact ha x q
        · simp at q; subst q; exact hg)
      refine ⟨ih.1, ?_⟩
      have := ih.2
      simp at this ⊢
      omega
    | none =>
      rw [hs] at h
      dsimp only at h
      by_cases h0 : classL c = 0
      · rw [if_pos h0] at h; cases h
      · rw [if_neg h0] at h
        have hk := class_le c
        have hlen := takeWhile_len (fun d => classL d == classL c) t
        have ih := tokGo_ok n _ (t.dropWhile (fun d => classL d == classL c)) ws h (by omega) (fun x hx => by
          by_cases h1 : classL c = 1
          · rw [if_pos h1] at hx; exact ha x hx
          · rw [if_neg h1] at hx
            rcases List.mem_append.1 hx with q | q
            · exact ha x q
            · simp only [List.mem_cons, List.not_mem_nil, or_false] at q
              subst q
              rcases class_dig_head (t := t) (c := c) (by omega) with w | w
              · exact w
              · simp only [List.length_cons] at w; omega)
        refine ⟨ih.1, ?_⟩
        have h2 := ih.2
        by_cases h1 : classL c = 1
        · rw [if_pos h1] at h2; simp; omega
        · rw [if_neg h1] at h2; simp at h2 ⊢; omega

theorem tokL_ok {l : List UInt8} {ws : List Wd} (h : tokL l = some ws) (hl : l.length ≤ 200) : (∀ x ∈ ws, WOk x) ∧ ws.length ≤ 200 := by
  unfold tokL at h
  have := tokGo_ok _ _ _ _ h (by simp; omega) (fun x hx => by cases hx)
  refine ⟨this.1, ?_⟩
  have h2 := this.2
  simp at h2
  omega

/-! ### putting together -/
theorem tog_some : TogR (.func (.func 70) #[] #[]) someT :=
  ⟨_, rfl, fun args w => enters_of Tryz.func70 (by kernel_rfl) rfl args w, fun Ts a c lo W h1 h2 h3 => some_any Ts a c lo W h1 h2 h3⟩
theorem tog_all : TogR (.func (.func 72) #[] #[]) allT :=
  ⟨_, rfl, fun args w => enters_of Tryz.func72 (by kernel_rfl) rfl args w, fun Ts a c lo W h1 h2 h3 => all_any Ts a c lo W h1 h2 h3⟩

theorem one_rel (p : Nat) (w : World) (hT : RT p w) : OneR p w (.func (.func 73) #[.pointer (some ⟨p, 0, none⟩)] #[]) pRel :=
  ⟨_, _, _, rfl, fun args w => enters_of Tryz.func73 (by kernel_rfl) rfl args w, fun W ws hb hp hx hl => relation_any p ws W hp hx (hT.but hb) hl⟩

theorem pMod_sub {of : Dg → Dg} {t u : List Wd} {F : Dg → Dg} (h : pMod of t = some (F, u)) : Sub u t := by
  unfold pMod at h
  by_cases hm : modW (t.headD []) = true
  · rw [if_pos hm] at h
    cases hn : pNum t.tail with
    | none => rw [hn] at h; cases h
    | some q =>
      obtain ⟨m, v⟩ := q
      rw [hn] at h
      dsimp only at h
      by_cases h0 : m = 0
      · rw [if_pos h0] at h; cases h
      · rw [if_neg h0] at h; cases h
        exact (pNum_sub hn).trans (Sub.tail t)
  · rw [if_neg hm] at h; cases h; exact Sub.refl _

theorem pMapL_sub {wi nt : Bool} {ws t : List Wd} {i : Tst × Bool} (h : ((pList wi ws).map fun q => ((q.1, nt), q.2)) = some (i, t)) : Sub t ws := by
  cases hl : pList wi ws with
  | none => rw [hl] at h; cases h
  | some q =>
    obtain ⟨T, u⟩ := q
    rw [hl] at h
    cases h
    exact pList_sub hl
theorem pMapN_sub {nt : Bool} {ws t : List Wd} {i : Tst × Bool} (h : ((pNum ws).map fun q => ((spanT q.1 q.1 false, nt), q.2)) = some (i, t)) : Sub t ws := by
  cases hl : pNum ws with
  | none => rw [hl] at h; cases h
  | some q =>
    obtain ⟨T, u⟩ := q
    rw [hl] at h
    cases h
    exact pNum_sub hl

theorem pManner_sub {ws t : List Wd} {i : Tst × Bool} (h : pManner ws = some (i, t)) : Sub t ws := by
  have s1 := Sub.tail ws
  have s2 := (Sub.tail ws.tail).trans s1
  unfold pManner at h
  split at h
  · exact (pMapL_sub h).trans s1
  split at h
  · exact (pMapL_sub h).trans s1
  split at h
  · split at h
    · exact (pMapN_sub h).trans s2
    · exact (pMapN_sub h).trans s1
  · dsimp only at h
    split at h
    · split at h
      · exact (pMapL_sub h).trans s2
      · split at h
        · exact (pMapL_sub h).trans s2
        · cases h
    · split at h
      · exact (pMapL_sub h).trans s1
      · split at h
        · exact (pMapL_sub h).trans s1
        · cases h

theorem pRel_sub {ws t : List Wd} {T : Tst} (h : pRel ws = some (T, t)) : Sub t ws := by
  cases ws with
  | nil => cases h
  | cons w u =>
    rw [pRel] at h
    cases ho : operandF w with
    | none => rw [ho] at h; cases h
    | some of =>
      rw [ho] at h
      dsimp only at h
      cases hm : pMod of u with
      | none => rw [hm] at h; cases h
      | some q =>
        obtain ⟨F, v⟩ := q
        rw [hm] at h
        dsimp only at h
        cases hn : pManner v with
        | none => rw [hn] at h; cases h
        | some q2 =>
          obtain ⟨⟨i, nt⟩, x⟩ := q2
          rw [hn] at h
          cases h
          exact ((pManner_sub hn).trans (pMod_sub hm)).trans ⟨fun y hy => by simp [hy], by simp⟩

theorem pRowGo_sub {word : Wd} {P : Parser} (hs : ∀ us T t, P us = some (T, t) → Sub t us) : ∀ {n : Nat} {acc ts : List Tst} {ws t : List Wd}, pRowGo word P n acc ws = some (ts, t) → Sub t ws
  | 0, _, _, _, _, h => by cases h
  | n + 1, acc, ts, ws, t, h => by
    rw [pRowGo] at h
    cases hi : P ws with
    | none => rw [hi] at h; cases h
    | some r =>
      obtain ⟨T, u⟩ := r
      rw [hi] at h
      dsimp only at h
      by_cases hc : isW word u = true
      · rw [if_pos hc] at h
        exact ((pRowGo_sub hs h).trans (Sub.tail u)).trans (hs _ _ _ hi)
      · rw [if_neg hc] at h
        cases h
        exact hs _ _ _ hi

theorem pAnd_sub {ws t : List Wd} {T : Tst} (h : pAnd ws = some (T, t)) : Sub t ws := by
  unfold pAnd pRow at h
  cases hg : pRowGo [97, 110, 100] pRel (ws.length + 1) [] ws with
  | none => rw [hg] at h; cases h
  | some r =>
    obtain ⟨ts, u⟩ := r
    rw [hg] at h
    cases h
    exact pRowGo_sub (fun us T t h => pRel_sub h) hg

set_option maxHeartbeats 1000000 in
theorem cond2_any (p pv : Nat) (ws : List Wd) (w : World) (hp : PAt w p ws) (hx : ∀ x ∈ ws, WOk x) (hT : RT p w) (hl : ws.length ≤ 1000) (hc : w.cell? ⟨pv, 0, none⟩ = some (.pointer (some ⟨p, 0, none⟩))) :
    Calls Tryz.prog 71 #[.pointer (some ⟨pv, 0, none⟩)] w (ParseQ p (pAnd ws) w) := by
  have hmf : ∀ (fn : Fn) (first cap : Array Value) (w : World), (Instr.makeFunc fn first cap).run Tryz.prog w = .ok (.func fn first cap) w := fun _ _ _ _ => rfl
  have hr := row_any p [97, 110, 100] allT pRel _ _ ws w hp hx hl tog_all (one_rel p w hT) (fun us T t h => pRel_sub h)
  have HR := Lib.hid hr
  clear hr hp hx hT
  go_enter Tryz.func71, Tryz.ntmps71
  go_wp2_with fail
  refine HR.out.mono ?_
  rintro e w1 ⟨hq, hb⟩
  have hpa : pAnd ws = pRow [97, 110, 100] allT pRel ws := rfl
  cases hn : pRow [97, 110, 100] allT pRel ws with
  | none =>
    rw [hn] at hq
    obtain rfl := hq
    have HN := Lib.hid (hpa.trans hn)
    clear hn hpa
    go_wp2
    refine ⟨rfl, ?_, hb⟩
    rw [HN.out]
  | some q =>
    obtain ⟨T, t⟩ := q
    rw [hn] at hq
    obtain ⟨⟨v, rfl, ht⟩, hp⟩ := hq
    have HN := Lib.hid (hpa.trans hn)
    have HTT := Lib.hid ht
    have HPP := Lib.hid hp
    clear hn ht hp hpa
    go_wp2
    go_ret
    refine ⟨?_, hb⟩
    rw [HN.out]
    exact ⟨⟨_, rfl, HTT.out⟩, HPP.out⟩
end Go.Proofs.YtpepgmccbkkaaaaGreatDoor

/- plural's condition. -/
namespace Go.Proofs.YtpepgmccbkkaaaaGreatDoor
open Go Go.RowKit
set_option maxRecDepth 10000

/-- strconv's errors are there -/
structure RT0 (w : World) : Prop where
  s : ∃ t v, w.cell? ⟨5, 0, none⟩ = some (.iface t v)
  r : ∃ t v, w.cell? ⟨6, 0, none⟩ = some (.iface t v)

theorem RT0.below {w w' : World} (h : RT0 w) (hb : Below w.heap.size w w') : RT0 w' := by
  obtain ⟨⟨t, v, hs⟩, ⟨t2, v2, hr⟩⟩ := h
  exact ⟨⟨t, v, (hb.cell (World.block_lt_of_cell? w _ hs)).trans hs⟩, ⟨t2, v2, (hb.cell (World.block_lt_of_cell? w _ hr)).trans hr⟩⟩
theorem RT0.at {w w' : World} {p : Nat} (h : RT0 w) (hb : Below w.heap.size w w') (hp : w.heap.size ≤ p) : RT p w' := by
  have h2 := h.below hb
  obtain ⟨⟨t, v, hs⟩, ⟨t2, v2, hr⟩⟩ := h
  have l1 := World.block_lt_of_cell? w _ hs
  have l2 := World.block_lt_of_cell? w _ hr
  dsimp only at l1 l2
  exact ⟨h2.s, h2.r, by omega, by omega⟩

def CondQ (r : Option Tst) (w : World) (e : Ending) (w' : World) : Prop :=
  (match r with | none => e = .returned .nilFunc | some T => ∃ v, e = .returned v ∧ TestR w.heap.size w'.heap.size w' v T) ∧ Below w.heap.size w w'

/-- the parser behind its making -/
theorem parser_made {w : World} {base : Nat} {v : Value} {ws : List Wd} (h : w.ownsRow base 9 1 v ws.length (ws.map strv)) (o : Obj) : PAt ((w.alloc (.cells #[v] 156)).alloc o) w.heap.size ws := by
  have hb : Below w.heap.size w ((w.alloc (.cells #[v] 156)).alloc o) := ((Below.refl _ _).alloc (Nat.le_refl _) _).alloc (by simp) _
  have hl1 : w.heap.size < (w.alloc (.cells #[v] 156)).heap.size := by simp
  have hc : ((w.alloc (.cells #[v] 156)).alloc o).cell? ⟨w.heap.size, 0, none⟩ = some v := by
    rw [World.cell?_alloc_lt _ _ _ hl1]; exact cell_made _ _ _ _ _
  have hz : ((w.alloc (.cells #[v] 156)).alloc o).frozen? ⟨w.heap.size, 0, none⟩ = false := by
    rw [World.frozen?_of_block (Below.heap_alloc _ _ _ hl1)]; simp
  have hlen : ws.length = ws.length := rfl
  rcases h.2 with ⟨hv, h0⟩ | ⟨g, cap, cur, hv, hg, hh, h1, h2, h3, ht⟩
  · subst hv
    have hw : ws = [] := List.eq_nil_of_length_eq_zero h0
    subst hw
    exact ⟨none, 0, hc, hz, Nat.le_refl _, Nat.zero_le _, fun j hj => absurd hj (Nat.not_lt_zero j)⟩
  · subst hv
    have hgl : g < w.heap.size := by
      rcases Nat.lt_or_ge g w.heap.size with q | q
      · exact q
      · rw [Array.getElem?_eq_none (by omega)] at hh; cases hh
    refine ⟨some ⟨g, 0, none⟩, cap, hc, hz, h1, h2, fun j hj => ⟨_, rfl, ⟨by show g ≠ w.heap.size; omega, cur, (0, 0), (hb.block g hgl).trans hh⟩, ?_⟩⟩
    rw [addr_add0, hb.cell (p := ⟨g, j, none⟩) hgl, h.cellAt j (by omega)]
    simp [hj]

theorem cond_one (p pv : Nat) (w : World) (hT : RT p w) (hc : CellV w pv (.pointer (some ⟨p, 0, none⟩))) (hne : pv ≠ p) : OneR p w (.func (.func 71) #[] #[.pointer (some ⟨pv, 0, none⟩)]) pAnd :=
  ⟨_, _, _, rfl, fun args w => enters_of Tryz.func71 (by kernel_rfl) rfl args w, fun W ws hb hp hx hl => cond2_any p pv ws W hp hx (hT.but hb) hl (hc.but hb hne).c⟩

set_option maxHeartbeats 4000000 in
theorem condition_any (s : ByteArray) (w : World) (hs : s.size ≤ 9223372036854775807) (hT : RT0 w) : Calls Tryz.prog 53 #[.string s] w (CondQ (condL s.data.toList) w) := by
  have hmf : ∀ (fn : Fn) (first cap : Array Value) (w : World), (Instr.makeFunc fn first cap).run Tryz.prog w = .ok (.func fn first cap) w := fun _ _ _ _ => rfl
  obtain ⟨r, hr⟩ : ∃ r, condL s.data.toList = r := ⟨_, rfl⟩
  rw [hr]
  unfold condL at hr
  rw [size_toList] at hr
  by_cases h200 : 200 < s.size
  · rw [if_pos h200] at hr
    subst hr
    have h1 : decide ((200 : Int) < (s.size : Int)) = true := by simp; omega
    go_enter_defers Tryz.func53, Tryz.ntmps53
    go_wp2
    refine leaves_cons (f := 67) (args := #[.pointer (some ⟨w.heap.size, 0, none⟩)]) (by simp) (by simp [go_sem]) ?_
    refine (catch_idle w.heap.size _).mono ?_
    rintro e u' w'' ⟨rfl, rfl, rfl⟩
    simp [Leaves, settle, results, Tryz.results53, go_sem]
    exact ⟨rfl, (Below.refl _ _).alloc (Nat.le_refl _) _⟩
  · rw [if_neg h200] at hr
    have h1 : decide ((200 : Int) < (s.size : Int)) = false := by simp; omega
    have htk := fun W => tokens_any s W (by omega)
    have HTK := Lib.hid htk
    have HR := Lib.hid hr
    have HT := Lib.hid hT
    clear htk hr hT
    go_enter_defers Tryz.func53, Tryz.ntmps53
    go_wp2_with fail
    have F1 : ∃ W, W = w.alloc (.cells #[.nilFunc] 118) ∧ Below w.heap.size w W ∧ CellV W w.heap.size .nilFunc ∧ W.heap.size = w.heap.size + 1 := ⟨_, rfl, (Below.refl _ _).alloc (Nat.le_refl _) _, CellV.made _ _ _ (by decide), by simp⟩
    obtain ⟨W, hW, hbW, cB, hsW⟩ := F1
    rw [← hW]
    clear hW
    refine (HTK.out W).mono ?_
    rintro e w2 ⟨hq, hb2⟩
    have hb02 : Below w.heap.size w w2 := hbW.trans (hb2.mono hbW.size)
    have cB2 : CellV w2 w.heap.size .nilFunc := cB.but (p := w2.heap.size) (But.of hb2) (by have := cB.lt; have := hb2.size; omega)
    cases hn : tokL s.data.toList with
    | none =>
      rw [hn] at hq
      obtain rfl := hq
      have hr0 : r = none := by rw [← HR.out, hn]
      have HR0 := Lib.hid hr0
      clear hn hr0
      refine leaves_cons (f := 67) (args := #[.pointer (some ⟨w.heap.size, 0, none⟩)]) (by simp) (by simp [go_sem]) ?_
      refine (catch_none w.heap.size _ [] _ cB2.c cB2.z).mono ?_
      rintro e u' w'' ⟨rfl, rfl, rfl⟩
      have hcell : ((w2.setCell ⟨w.heap.size, 0, none⟩ .nilFunc).alloc (.cells #[] 151)).cell? ⟨w.heap.size, 0, none⟩ = some .nilFunc := by
        rw [World.cell?_alloc_lt _ _ _ (by simpa [World.setCell] using cB2.lt), World.cell?_setCell_same (h := cB2.c)]
      simp [Leaves, settle, results, Tryz.results53, go_sem, hcell]
      refine ⟨?_, (hb02.setCell (Nat.le_refl _) _).alloc (by simpa [World.setCell] using hb02.size) _⟩
      rw [HR0.out]
    | some ws =>
      rw [hn] at hq
      obtain ⟨v, rfl, hown⟩ := hq
      obtain ⟨hxs, hlen⟩ := tokL_ok hn (by rw [size_toList]; omega)
      have HN := Lib.hid hn
      obtain ⟨a, cap, rfl⟩ := own_slice hown
      have F3 : ∃ W3, W3 = (w2.alloc (.cells #[.slice a ws.length cap] 156)).alloc (.cells #[.pointer (some ⟨w2.heap.size, 0, none⟩)] 153) ∧ Below w2.heap.size w2 W3 ∧ PAt W3 w2.heap.size ws ∧ CellV W3 (w2.heap.size + 1) (.pointer (some ⟨w2.heap.size, 0, none⟩)) ∧ W3.heap.size = w2.heap.size + 2 := by
        refine ⟨_, rfl, ((Below.refl _ _).alloc (Nat.le_refl _) _).alloc (by simp) _, parser_made hown _, ?_, by simp⟩
        have hs : (w2.alloc (.cells #[.slice a ws.length cap] 156)).heap.size = w2.heap.size + 1 := by simp
        rw [← hs]
        exact CellV.made _ _ _ (by decide)
      obtain ⟨W3, hW3, hb3, hp3, cP3, hs3⟩ := F3
      have hBlt := cB2.lt
      have cB3 : CellV W3 w.heap.size .nilFunc := cB2.but (p := W3.heap.size) (But.of hb3) (by omega)
      have hb03 : Below w.heap.size w W3 := hb02.trans (hb3.mono hb02.size)
      have hT3 : RT w2.heap.size W3 := HT.out.at hb03 hb02.size
      have hrow := row_any w2.heap.size [111, 114] someT pAnd _ _ ws W3 hp3 hxs (by omega) tog_some (cond_one w2.heap.size (w2.heap.size + 1) W3 hT3 cP3 (by omega)) (fun us T t h => pAnd_sub h)
      have HROW := Lib.hid hrow
      have HS3 := Lib.hid hs3
      have HP3 := Lib.hid hp3
      clear hn hown hrow hT3 hs3 hp3 hxs
      go_wp2_with fail
      rw [← hW3]
      clear hW3
      refine HROW.out.mono ?_
      rintro e w4 ⟨hq, hb4⟩
      have hPB : w.heap.size ≠ w2.heap.size := by omega
      have cB4 := cB3.but hb4 hPB
      have cP4 := cP3.but hb4 (by omega)
      have hb04 : Below w.heap.size w w4 := hb03.trans (hb4.low (by omega) hb03.size)
      cases hn : pRow [111, 114] someT pAnd ws with
      | none =>
        rw [hn] at hq
        obtain rfl := hq
        have hr0 : r = none := by rw [← HR.out, HN.out]; show (match pOr ws with | some (T, []) => some T | _ => none) = none; unfold pOr; rw [hn]
        have HR0 := Lib.hid hr0
        clear hn hr0
        refine leaves_cons (f := 67) (args := #[.pointer (some ⟨w.heap.size, 0, none⟩)]) (by simp) (by simp [go_sem]) ?_
        refine (catch_none w.heap.size _ [] _ cB4.c cB4.z).mono ?_
        rintro e u' w'' ⟨rfl, rfl, rfl⟩
        have hcell : ((w4.setCell ⟨w.heap.size, 0, none⟩ .nilFunc).alloc (.cells #[] 151)).cell? ⟨w.heap.size, 0, none⟩ = some .nilFunc := by
          rw [World.cell?_alloc_lt _ _ _ (by simpa [World.setCell] using cB4.lt), World.cell?_setCell_same (h := cB4.c)]
        simp [Leaves, settle, results, Tryz.results53, go_sem, hcell]
        refine ⟨?_, (hb04.setCell (Nat.le_refl _) _).alloc (by simpa [World.setCell] using hb04.size) _⟩
        rw [HR0.out]
      | some q =>
        obtain ⟨T, t⟩ := q
        rw [hn] at hq
        obtain ⟨⟨v, rfl, ht⟩, hp4⟩ := hq
        have hpo : pOr ws = some (T, t) := hn
        have HPO := Lib.hid hpo
        have HTT := Lib.hid ht
        have hp4l := hp4.lt
        obtain ⟨kf, cpf, rfl, _⟩ := ht
        obtain ⟨a4, c4, e1, e2, e3, e4, e5⟩ := hp4
        have yB := cB4.c
        have yBz := cB4.z
        have yP := cP4.c
        have hBt : w.heap.size < w4.heap.size := cB4.lt
        clear hn hpo e5
        cases t with
        | nil =>
          have hr0 : r = some T := by
            rw [← HR.out, HN.out]
            show (match pOr ws with | some (T, []) => some T | _ => none) = _
            rw [HPO.out]
          have HR0 := Lib.hid hr0
          clear hr0
          go_wp2
          refine leaves_cons (f := 67) (args := #[.pointer (some ⟨w.heap.size, 0, none⟩)]) (by simp) (by simp [go_sem]) ?_
          refine (catch_idle w.heap.size _).mono ?_
          rintro e u' w'' ⟨rfl, rfl, rfl⟩
          have cF := (cB4.same (.func (.func kf) #[] cpf)).same (.func (.func kf) #[] cpf)
          have hbF : Below w.heap.size w ((w4.setCell ⟨w.heap.size, 0, none⟩ (.func (.func kf) #[] cpf)).setCell ⟨w.heap.size, 0, none⟩ (.func (.func kf) #[] cpf)) := (hb04.setCell (Nat.le_refl _) _).setCell (Nat.le_refl _) _
          have hcell := cF.c
          simp [Leaves, settle, results, Tryz.results53, go_sem, hcell]
          refine ⟨?_, hbF⟩
          rw [HR0.out]
          have hsz : ((w4.setCell ⟨w.heap.size, 0, none⟩ (.func (.func kf) #[] cpf)).setCell ⟨w.heap.size, 0, none⟩ (.func (.func kf) #[] cpf)).heap.size = w4.heap.size := by simp [World.setCell]
          exact ⟨_, rfl, HTT.out.keep ⟨by rw [hsz]; exact Nat.le_refl _, fun k k1 k2 => by
            have hk : k ≠ w.heap.size := by have := HS3.out; omega
            rw [Below.heap_setCell _ _ _ _ hk, Below.heap_setCell _ _ _ _ hk]⟩ (by have := HS3.out; omega) (by rw [hsz]; exact Nat.le_refl _)⟩
        | cons x t' =>
          have hr0 : r = none := by
            rw [← HR.out, HN.out]
            show (match pOr ws with | some (T, []) => some T | _ => none) = _
            rw [HPO.out]
          have HR0 := Lib.hid hr0
          clear hr0
          go_wp2
          refine leaves_cons (f := 67) (args := #[.pointer (some ⟨w.heap.size, 0, none⟩)]) (by simp) (by simp [go_sem]) ?_
          refine (catch_idle w.heap.size _).mono ?_
          rintro e u' w'' ⟨rfl, rfl, rfl⟩
          have cF := (cB4.same (.func (.func kf) #[] cpf)).same .nilFunc
          have hbF : Below w.heap.size w ((w4.setCell ⟨w.heap.size, 0, none⟩ (.func (.func kf) #[] cpf)).setCell ⟨w.heap.size, 0, none⟩ .nilFunc) := (hb04.setCell (Nat.le_refl _) _).setCell (Nat.le_refl _) _
          have hcell := cF.c
          simp [Leaves, settle, results, Tryz.results53, go_sem, hcell]
          refine ⟨?_, hbF⟩
          rw [HR0.out]
end Go.Proofs.YtpepgmccbkkaaaaGreatDoor

/- plural's sets in memory. -/
namespace Go.Proofs.YtpepgmccbkkaaaaGreatDoor
open Go Go.RowKit
set_option maxRecDepth 10000

/-- a set in memory: categories' numbers and tests; it hangs on the blocks from lo to hi alone -/
def SetR (lo hi : Nat) (w : World) (a : Option Addr) (S : List (Nat × Tst)) : Prop :=
  ∀ j (h : j < S.length), ∃ g o v, a = some ⟨g, o, none⟩ ∧ w.cell? ⟨g, o + j * 2, none⟩ = some (.int .i64 S[j].1) ∧ w.cell? ⟨g, o + j * 2 + 1, none⟩ = some v ∧ lo ≤ g ∧ g < hi ∧ TestR lo hi w v S[j].2

theorem SetR.keep {lo hi lo' hi' : Nat} {w w' : World} {a : Option Addr} {S : List (Nat × Tst)} (h : SetR lo hi w a S) (hk : KeepR lo hi w w') (h1 : lo' ≤ lo) (h2 : hi ≤ hi') : SetR lo' hi' w' a S := fun j hj => by
  obtain ⟨g, o, v, e1, e2, e3, e4, e5, e6⟩ := h j hj
  exact ⟨g, o, v, e1, (hk.cell (p := ⟨g, _, none⟩) e4 e5).trans e2, (hk.cell (p := ⟨g, _, none⟩) e4 e5).trans e3, by omega, by omega, e6.keep hk h1 h2⟩

/-- the category of a number: the first test that holds -/
def ofL (S : List (Nat × Tst)) (x : Dg) : Nat := match S.find? (fun q => q.2 x) with | some q => q.1 | none => 5
end Go.Proofs.YtpepgmccbkkaaaaGreatDoor
