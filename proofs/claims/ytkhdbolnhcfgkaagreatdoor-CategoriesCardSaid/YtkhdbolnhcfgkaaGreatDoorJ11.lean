import Derived.Test.YtkhdbolnhcfgkaaGreatDoorJ10
import Derived.Maps.Own
import Derived.Maps.Views
import Derived.OwnWalk

/- plural's condition. -/
namespace Go.Proofs.YtkhdbolnhcfgkaaGreatDoor
open Go Go.RowKit
set_option maxRecDepth 10000

/-- strconv's errors are there -/
structure RT0 (w : World) : Prop where
  s : ∃ t v, w.cell? ⟨3, 0, none⟩ = some (.iface t v)
  r : ∃ t v, w.cell? ⟨4, 0, none⟩ = some (.iface t v)

theorem RT0.below {w w' : World} (h : RT0 w) (hb : Below w.heap.size w w') : RT0 w' := by
  obtain ⟨⟨t, v, hs⟩, ⟨t2, v2, hr⟩⟩ := h
  exact ⟨⟨t, v, (hb.cell (World.block_lt_of_cell? w _ hs)).trans hs⟩, ⟨t2, v2, (hb.cell (World.block_lt_of_cell? w _ hr)).trans hr⟩⟩
theorem RT0.at {w w' : World} {p : Nat} (h : RT0 w) (hb : Below w.heap.size w w') (hp : w.heap.size ≤ p) : RT p w' := by
  have h2 := h.below hb
  obtain ⟨⟨t, v, hs⟩, ⟨t2, v2, hr⟩⟩ := h
  have l1 := World.block_lt_of_cell? w _ hs
  have l2 := World.block_lt_of_cell? w _ hr
  dsimp only at l1 l2
  exact ⟨h2.s, h2.r, by omega, by omega⟩

def CondQ (r : Option Tst) (w : World) (e : Ending) (w' : World) : Prop :=
  (match r with | none => e = .returned .nilFunc | some T => ∃ v, e = .returned v ∧ TestR w.heap.size w'.heap.size w' v T) ∧ Below w.heap.size w w'

/-- the parser behind its making -/
theorem parser_made {w : World} {base : Nat} {v : Value} {ws : List Wd} (h : w.ownsRow base 9 1 v ws.length (ws.map strv)) (o : Obj) : PAt ((w.alloc (.cells #[v] 128)).alloc o) w.heap.size ws := by
  have hb : Below w.heap.size w ((w.alloc (.cells #[v] 128)).alloc o) := ((Below.refl _ _).alloc (Nat.le_refl _) _).alloc (by simp) _
  have hl1 : w.heap.size < (w.alloc (.cells #[v] 128)).heap.size := by simp
  have hc : ((w.alloc (.cells #[v] 128)).alloc o).cell? ⟨w.heap.size, 0, none⟩ = some v := by
    rw [World.cell?_alloc_lt _ _ _ hl1]; exact cell_made _ _ _ _ _
  have hz : ((w.alloc (.cells #[v] 128)).alloc o).frozen? ⟨w.heap.size, 0, none⟩ = false := by
    rw [World.frozen?_of_block (Below.heap_alloc _ _ _ hl1)]; simp
  have hlen : ws.length = ws.length := rfl
  rcases h.2 with ⟨hv, h0⟩ | ⟨g, cap, cur, hv, hg, hh, h1, h2, h3, ht⟩
  · subst hv
    have hw : ws = [] := List.eq_nil_of_length_eq_zero h0
    subst hw
    exact ⟨none, 0, hc, hz, Nat.le_refl _, Nat.zero_le _, fun j hj => absurd hj (Nat.not_lt_zero j)⟩
  · subst hv
    have hgl : g < w.heap.size := by
      rcases Nat.lt_or_ge g w.heap.size with q | q
      · exact q
      · rw [Array.getElem?_eq_none (by omega)] at hh; cases hh
    refine ⟨some ⟨g, 0, none⟩, cap, hc, hz, h1, h2, fun j hj => ⟨_, rfl, ⟨by show g ≠ w.heap.size; omega, cur, (0, 0), (hb.block g hgl).trans hh⟩, ?_⟩⟩
    rw [addr_add0, hb.cell (p := ⟨g, j, none⟩) hgl, h.cellAt j (by omega)]
    simp [hj]

theorem cond_one (p pv : Nat) (w : World) (hT : RT p w) (hc : CellV w pv (.pointer (some ⟨p, 0, none⟩))) (hne : pv ≠ p) : OneR p w (.func (.func 57) #[] #[.pointer (some ⟨pv, 0, none⟩)]) pAnd :=
  ⟨_, _, _, rfl, fun args w => enters_of Tryz.func57 (by kernel_rfl) rfl args w, fun W ws hb hp hx hl => cond2_any p pv ws W hp hx (hT.but hb) hl (hc.but hb hne).c⟩

set_option maxHeartbeats 4000000 in
theorem condition_any (s : ByteArray) (w : World) (hs : s.size ≤ 9223372036854775807) (hT : RT0 w) : Calls Tryz.prog 36 #[.string s] w (CondQ (condL s.data.toList) w) := by
  have hmf : ∀ (fn : Fn) (first cap : Array Value) (w : World), (Instr.makeFunc fn first cap).run Tryz.prog w = .ok (.func fn first cap) w := fun _ _ _ _ => rfl
  obtain ⟨r, hr⟩ : ∃ r, condL s.data.toList = r := ⟨_, rfl⟩
  rw [hr]
  unfold condL at hr
  rw [size_toList] at hr
  by_cases h200 : 200 < s.size
  · rw [if_pos h200] at hr
    subst hr
    have h1 : decide ((200 : Int) < (s.size : Int)) = true := by simp; omega
    go_enter_defers Tryz.func36, Tryz.ntmps36
    go_wp2
    refine leaves_cons (f := 53) (args := #[.pointer (some ⟨w.heap.size, 0, none⟩)]) (by simp) (by simp [go_sem]) ?_
    refine (catch_idle w.heap.size _).mono ?_
    rintro e u' w'' ⟨rfl, rfl, rfl⟩
    simp [Leaves, settle, results, Tryz.results36, go_sem]
    exact ⟨rfl, (Below.refl _ _).alloc (Nat.le_refl _) _⟩
  · rw [if_neg h200] at hr
    have h1 : decide ((200 : Int) < (s.size : Int)) = false := by simp; omega
    have htk := fun W => tokens_any s W (by omega)
    have HTK := Lib.hid htk
    have HR := Lib.hid hr
    have HT := Lib.hid hT
    clear htk hr hT
    go_enter_defers Tryz.func36, Tryz.ntmps36
    go_wp2_with fail
    have F1 : ∃ W, W = w.alloc (.cells #[.nilFunc] 92) ∧ Below w.heap.size w W ∧ CellV W w.heap.size .nilFunc ∧ W.heap.size = w.heap.size + 1 := ⟨_, rfl, (Below.refl _ _).alloc (Nat.le_refl _) _, CellV.made _ _ _ (by decide), by simp⟩
    obtain ⟨W, hW, hbW, cB, hsW⟩ := F1
    rw [← hW]
    clear hW
    refine (HTK.out W).mono ?_
    rintro e w2 ⟨hq, hb2⟩
    have hb02 : Below w.heap.size w w2 := hbW.trans (hb2.mono hbW.size)
    have cB2 : CellV w2 w.heap.size .nilFunc := cB.but (p := w2.heap.size) (But.of hb2) (by have := cB.lt; have := hb2.size; omega)
    cases hn : tokL s.data.toList with
    | none =>
      rw [hn] at hq
      obtain rfl := hq
      have hr0 : r = none := by rw [← HR.out, hn]
      have HR0 := Lib.hid hr0
      clear hn hr0
      refine leaves_cons (f := 53) (args := #[.pointer (some ⟨w.heap.size, 0, none⟩)]) (by simp) (by simp [go_sem]) ?_
      refine (catch_none w.heap.size _ [] _ cB2.c cB2.z).mono ?_
      rintro e u' w'' ⟨rfl, rfl, rfl⟩
      have hcell : ((w2.setCell ⟨w.heap.size, 0, none⟩ .nilFunc).alloc (.cells #[] 123)).cell? ⟨w.heap.size, 0, none⟩ = some .nilFunc := by
        rw [World.cell?_alloc_lt _ _ _ (by simpa [World.setCell] using cB2.lt), World.cell?_setCell_same (h := cB2.c)]
      simp [Leaves, settle, results, Tryz.results36, go_sem, hcell]
      refine ⟨?_, (hb02.setCell (Nat.le_refl _) _).alloc (by simpa [World.setCell] using hb02.size) _⟩
      rw [HR0.out]
    | some ws =>
      rw [hn] at hq
      obtain ⟨v, rfl, hown⟩ := hq
      obtain ⟨hxs, hlen⟩ := tokL_ok hn (by rw [size_toList]; omega)
      have HN := Lib.hid hn
      obtain ⟨a, cap, rfl⟩ := own_slice hown
      have F3 : ∃ W3, W3 = (w2.alloc (.cells #[.slice a ws.length cap] 128)).alloc (.cells #[.pointer (some ⟨w2.heap.size, 0, none⟩)] 125) ∧ Below w2.heap.size w2 W3 ∧ PAt W3 w2.heap.size ws ∧ CellV W3 (w2.heap.size + 1) (.pointer (some ⟨w2.heap.size, 0, none⟩)) ∧ W3.heap.size = w2.heap.size + 2 := by
        refine ⟨_, rfl, ((Below.refl _ _).alloc (Nat.le_refl _) _).alloc (by simp) _, parser_made hown _, ?_, by simp⟩
        have hs : (w2.alloc (.cells #[.slice a ws.length cap] 128)).heap.size = w2.heap.size + 1 := by simp
        rw [← hs]
        exact CellV.made _ _ _ (by decide)
      obtain ⟨W3, hW3, hb3, hp3, cP3, hs3⟩ := F3
      have hBlt := cB2.lt
      have cB3 : CellV W3 w.heap.size .nilFunc := cB2.but (p := W3.heap.size) (But.of hb3) (by omega)
      have hb03 : Below w.heap.size w W3 := hb02.trans (hb3.mono hb02.size)
      have hT3 : RT w2.heap.size W3 := HT.out.at hb03 hb02.size
      have hrow := row_any w2.heap.size [111, 114] someT pAnd _ _ ws W3 hp3 hxs (by omega) tog_some (cond_one w2.heap.size (w2.heap.size + 1) W3 hT3 cP3 (by omega)) (fun us T t h => pAnd_sub h)
      have HROW := Lib.hid hrow
      have HS3 := Lib.hid hs3
      have HP3 := Lib.hid hp3
      clear hn hown hrow hT3 hs3 hp3 hxs
      go_wp2_with fail
      rw [← hW3]
      clear hW3
      refine HROW.out.mono ?_
      rintro e w4 ⟨hq, hb4⟩
      have hPB : w.heap.size ≠ w2.heap.size := by omega
      have cB4 := cB3.but hb4 hPB
      have cP4 := cP3.but hb4 (by omega)
      have hb04 : Below w.heap.size w w4 := hb03.trans (hb4.low (by omega) hb03.size)
      cases hn : pRow [111, 114] someT pAnd ws with
      | none =>
        rw [hn] at hq
        obtain rfl := hq
        have hr0 : r = none := by rw [← HR.out, HN.out]; show (match pOr ws with | some (T, []) => some T | _ => none) = none; unfold pOr; rw [hn]
        have HR0 := Lib.hid hr0
        clear hn hr0
        refine leaves_cons (f := 53) (args := #[.pointer (some ⟨w.heap.size, 0, none⟩)]) (by simp) (by simp [go_sem]) ?_
        refine (catch_none w.heap.size _ [] _ cB4.c cB4.z).mono ?_
        rintro e u' w'' ⟨rfl, rfl, rfl⟩
        have hcell : ((w4.setCell ⟨w.heap.size, 0, none⟩ .nilFunc).alloc (.cells #[] 123)).cell? ⟨w.heap.size, 0, none⟩ = some .nilFunc := by
          rw [World.cell?_alloc_lt _ _ _ (by simpa [World.setCell] using cB4.lt), World.cell?_setCell_same (h := cB4.c)]
        simp [Leaves, settle, results, Tryz.results36, go_sem, hcell]
        refine ⟨?_, (hb04.setCell (Nat.le_refl _) _).alloc (by simpa [World.setCell] using hb04.size) _⟩
        rw [HR0.out]
      | some q =>
        obtain ⟨T, t⟩ := q
        rw [hn] at hq
        obtain ⟨⟨v, rfl, ht⟩, hp4⟩ := hq
        have hpo : pOr ws = some (T, t) := hn
        have HPO := Lib.hid hpo
        have HTT := Lib.hid ht
        have hp4l := hp4.lt
        obtain ⟨kf, cpf, rfl, _⟩ := ht
        obtain ⟨a4, c4, e1, e2, e3, e4, e5⟩ := hp4
        have yB := cB4.c
        have yBz := cB4.z
        have yP := cP4.c
        have hBt : w.heap.size < w4.heap.size := cB4.lt
        clear hn hpo e5
        cases t with
        | nil =>
          have hr0 : r = some T := by
            rw [← HR.out, HN.out]
            show (match pOr ws with | some (T, []) => some T | _ => none) = _
            rw [HPO.out]
          have HR0 := Lib.hid hr0
          clear hr0
          go_wp2
          refine leaves_cons (f := 53) (args := #[.pointer (some ⟨w.heap.size, 0, none⟩)]) (by simp) (by simp [go_sem]) ?_
          refine (catch_idle w.heap.size _).mono ?_
          rintro e u' w'' ⟨rfl, rfl, rfl⟩
          have cF := (cB4.same (.func (.func kf) #[] cpf)).same (.func (.func kf) #[] cpf)
          have hbF : Below w.heap.size w ((w4.setCell ⟨w.heap.size, 0, none⟩ (.func (.func kf) #[] cpf)).setCell ⟨w.heap.size, 0, none⟩ (.func (.func kf) #[] cpf)) := (hb04.setCell (Nat.le_refl _) _).setCell (Nat.le_refl _) _
          have hcell := cF.c
          simp [Leaves, settle, results, Tryz.results36, go_sem, hcell]
          refine ⟨?_, hbF⟩
          rw [HR0.out]
          have hsz : ((w4.setCell ⟨w.heap.size, 0, none⟩ (.func (.func kf) #[] cpf)).setCell ⟨w.heap.size, 0, none⟩ (.func (.func kf) #[] cpf)).heap.size = w4.heap.size := by simp [World.setCell]
          exact ⟨_, rfl, HTT.out.keep ⟨by rw [hsz]; exact Nat.le_refl _, fun k k1 k2 => by
            have hk : k ≠ w.heap.size := by have := HS3.out; omega
            rw [Below.heap_setCell _ _ _ _ hk, Below.heap_setCell _ _ _ _ hk]⟩ (by have := HS3.out; omega) (by rw [hsz]; exact Nat.le_refl _)⟩
        | cons x t' =>
          have hr0 : r = none := by
            rw [← HR.out, HN.out]
            show (match pOr ws with | some (T, []) => some T | _ => none) = _
            rw [HPO.out]
          have HR0 := Lib.hid hr0
          clear hr0
          go_wp2
          refine leaves_cons (f := 53) (args := #[.pointer (some ⟨w.heap.size, 0, none⟩)]) (by simp) (by simp [go_sem]) ?_
          refine (catch_idle w.heap.size _).mono ?_
          rintro e u' w'' ⟨rfl, rfl, rfl⟩
          have cF := (cB4.same (.func (.func kf) #[] cpf)).same .nilFunc
          have hbF : Below w.heap.size w ((w4.setCell ⟨w.heap.size, 0, none⟩ (.func (.func kf) #[] cpf)).setCell ⟨w.heap.size, 0, none⟩ .nilFunc) := (hb04.setCell (Nat.le_refl _) _).setCell (Nat.le_refl _) _
          have hcell := cF.c
          simp [Leaves, settle, results, Tryz.results36, go_sem, hcell]
          refine ⟨?_, hbF⟩
          rw [HR0.out]
end Go.Proofs.YtkhdbolnhcfgkaaGreatDoor

/- plural's sets: Of. -/
namespace Go.Proofs.YtkhdbolnhcfgkaaGreatDoor
open Go Go.RowKit
set_option maxRecDepth 10000

/-- a set in memory: categories' numbers and tests; it hangs on the blocks from lo to hi alone -/
def SetR (lo hi : Nat) (w : World) (a : Option Addr) (S : List (Nat × Tst)) : Prop :=
  ∀ j (h : j < S.length), ∃ g o v, a = some ⟨g, o, none⟩ ∧ w.cell? ⟨g, o + j * 2, none⟩ = some (.int .i64 S[j].1) ∧ w.cell? ⟨g, o + j * 2 + 1, none⟩ = some v ∧ lo ≤ g ∧ g < hi ∧ TestR lo hi w v S[j].2

theorem SetR.keep {lo hi lo' hi' : Nat} {w w' : World} {a : Option Addr} {S : List (Nat × Tst)} (h : SetR lo hi w a S) (hk : KeepR lo hi w w') (h1 : lo' ≤ lo) (h2 : hi ≤ hi') : SetR lo' hi' w' a S := fun j hj => by
  obtain ⟨g, o, v, e1, e2, e3, e4, e5, e6⟩ := h j hj
  exact ⟨g, o, v, e1, (hk.cell (p := ⟨g, _, none⟩) e4 e5).trans e2, (hk.cell (p := ⟨g, _, none⟩) e4 e5).trans e3, by omega, by omega, e6.keep hk h1 h2⟩

/-- the category of a number: the first test that holds -/
def ofL (S : List (Nat × Tst)) (x : Dg) : Nat := match S.find? (fun q => q.2 x) with | some q => q.1 | none => 5

set_option maxHeartbeats 2000000 in
theorem of_any (S : List (Nat × Tst)) (a : Option Addr) (c : Nat) (nv : Value) (x : Dg) (lo hi : Nat) (w : World) (hl : S.length ≤ 1000000) (ht : SetR lo hi w a S) (hhi : hi ≤ w.heap.size) (hn : NumV w nv x) :
    Calls Tryz.prog 30 #[.slice a S.length c, nv] w fun e w' => e = .returned (.int .i64 (ofL S x)) ∧ Below w.heap.size w w' := by
  have HN := Lib.hid hn
  obtain ⟨b', g, cap, n', k', rfl⟩ := hn.form
  have F : ∃ W, W = w.alloc (.cells #[.bool b', .slice (some ⟨g, 0, none⟩) n' cap, .int .i64 k'] 73) ∧ Below w.heap.size w W ∧ W.heap.size = w.heap.size + 1 ∧ BoxN W w.heap.size (.agg #[.bool b', .slice (some ⟨g, 0, none⟩) n' cap, .int .i64 k']) :=
    ⟨_, rfl, (Below.refl _ _).alloc (Nat.le_refl _) _, by simp, ⟨by simp, _, _, _, rfl, by go_simp, by go_simp, by go_simp⟩⟩
  obtain ⟨W, hW, hbW, hs, hbx⟩ := F
  have HT := Lib.hid (ht.keep (keep_below hbW hhi hhi) (Nat.le_refl _) (Nat.le_refl _))
  have HNW := Lib.hid (HN.out.below hbW)
  have hhiW : hi ≤ W.heap.size := by omega
  clear ht hn
  go_enter Tryz.func30, Tryz.ntmps30
  go_wp2_with fail
  rw [← hW]
  clear hW
  obtain ⟨B, hB⟩ : ∃ B, B = w.heap.size := ⟨_, rfl⟩
  rw [← hB] at hbx ⊢
  have HBE := Lib.hid hB
  clear hB
  go_loopw [9] (fun i wr => ∃ k : Nat, k ≤ S.length ∧ i = .int .i64 k ∧ (S.take k).find? (fun q => q.2 x) = none ∧ Below W.heap.size W wr) (fun i _ => S.length - (intOf i).toNat)
  case atStart => exact ⟨0, Nat.zero_le _, rfl, rfl, Below.refl _ _⟩
  case round =>
    obtain ⟨k, hk, rfl, hz, hbw⟩ := hrel
    have HZ := Lib.hid hz
    clear hz
    have hbb0 : Below w.heap.size w wr := hbW.trans (hbw.mono (by omega))
    by_cases hlt : k < S.length
    · obtain ⟨ga, o, v, rfl, hc1, hc2, h1, h2, hT⟩ := HT.out k hlt
      have hgW : ga < W.heap.size := by omega
      have hc1' := (hbw.cell (p := ⟨ga, o + k * 2, none⟩) hgW).trans hc1
      have hc2' := (hbw.cell (p := ⟨ga, o + k * 2 + 1, none⟩) hgW).trans hc2
      have hkp := keep_below (lo := lo) hbw hhiW hhiW
      have hTr := hT.keep hkp (Nat.le_refl _) (Nat.le_refl _)
      have HTR := Lib.hid hTr
      obtain ⟨K, cp, rfl, hent, hcall⟩ := hTr
      have hbA : Below wr.heap.size wr (wr.alloc (.cells #[.int .i64 S[k].1, .func (.func K) #[] cp] 94)) := (Below.refl _ _).alloc (Nat.le_refl _) _
      have hcl := hcall (wr.alloc (.cells #[.int .i64 S[k].1, .func (.func K) #[] cp] 94)) (keep_below hbA (Nat.le_trans hhiW hbw.size) (Nat.le_trans hhiW hbw.size)) _ x ((HNW.out.below hbw).below hbA)
      have HC := Lib.hid hcl
      obtain ⟨hBl, bb, ss, kk, e0, c0, c1, c2⟩ := hbx.below hbw
      cases e0
      have d0 : ∀ o, (wr.alloc o).cell? ⟨B, 0, none⟩ = _ := fun o => (World.cell?_alloc_lt _ _ _ hBl).trans c0
      have d1 : ∀ o, (wr.alloc o).cell? ⟨B, 1, none⟩ = _ := fun o => (World.cell?_alloc_lt _ _ _ hBl).trans c1
      have d2 : ∀ o, (wr.alloc o).cell? ⟨B, 2, none⟩ = _ := fun o => (World.cell?_alloc_lt _ _ _ hBl).trans c2
      have hbbA := hbw.trans (hbA.mono hbw.size)
      have hbbA0 := hbb0.trans (hbA.mono hbb0.size)
      have hsA : wr.heap.size < (wr.alloc (.cells #[.int .i64 S[k].1, .func (.func K) #[] cp] 94)).heap.size := by simp
      have a0 : (wr.alloc (.cells #[.int .i64 S[k].1, .func (.func K) #[] cp] 94)).cell? ⟨wr.heap.size, 0, none⟩ = some (.int .i64 S[k].1) := cell_made _ _ _ _ _
      clear hc1 hc2 hT hcall hcl
      go_wp2_with fail
      refine HC.out.mono ?_
      rintro e w1 ⟨rfl, hb1⟩
      have hbb := hbbA.trans (hb1.mono hbbA.size)
      have hbb1 : Below w.heap.size w w1 := hbbA0.trans (hb1.mono hbbA0.size)
      have a1 := (hb1.cell (p := ⟨wr.heap.size, 0, none⟩) hsA).trans a0
      cases hTx : S[k].2 x
      · have hz2 : (S.take (k + 1)).find? (fun q => q.2 x) = none := by
          rw [List.take_succ_eq_append_getElem hlt, List.find?_append, HZ.out]
          simp [hTx]
        have HF := Lib.hid hz2
        clear hTx hz2
        go_wp2
        go_roundw
        case rel => exact ⟨k + 1, by omega, by go_num, HF.out, hbb⟩
        case measure => simp [intOf]; omega
      · have hf : ofL S x = S[k].1 := by
          have h1 : S.find? (fun q => q.2 x) = some S[k] := by
            have hsp : S = S.take k ++ S[k] :: S.drop (k + 1) := by rw [← List.drop_eq_getElem_cons hlt, List.take_append_drop]
            have h2 := congrArg (List.find? (fun q => q.2 x)) hsp
            rw [List.find?_append, HZ.out, Option.none_or, List.find?_cons_of_pos (p := fun q : Nat × Tst => q.2 x) hTx] at h2
            exact h2
          unfold ofL
          rw [h1]
        have HF := Lib.hid hf
        clear hTx hf
        go_wp2
        go_ret
        exact ⟨by rw [HF.out]; rfl, hbb1⟩
    · obtain rfl : k = S.length := by omega
      have hz := HZ.out
      rw [List.take_length] at hz
      have hf : ofL S x = 5 := by unfold ofL; rw [hz]
      have HF := Lib.hid hf
      clear hz HZ hf
      go_wp2
      go_ret
      exact ⟨by rw [HF.out]; rfl, hbb0⟩
end Go.Proofs.YtkhdbolnhcfgkaaGreatDoor

/- plural.Read: the sets that rules make. -/
namespace Go.Proofs.YtkhdbolnhcfgkaaGreatDoor
open Go Go.RowKit
set_option maxRecDepth 10000

def catsB : List ByteArray := [⟨#[122, 101, 114, 111]⟩, ⟨#[111, 110, 101]⟩, ⟨#[116, 119, 111]⟩, ⟨#[102, 101, 119]⟩, ⟨#[109, 97, 110, 121]⟩, ⟨#[111, 116, 104, 101, 114]⟩]

/-- the categories' names are there -/
def NamesAt (w : World) : Prop := ∀ j, j < 6 → w.cell? ⟨0, j, none⟩ = some (.string (catsB.getD j ByteArray.empty))

theorem NamesAt.below {w w' : World} (h : NamesAt w) (hb : Below w.heap.size w w') : NamesAt w' := fun j hj => (hb.cell (World.block_lt_of_cell? w _ (h j hj))).trans (h j hj)

/-- a rule: its name, and when -/
abbrev Rul := Wd × List UInt8

/-- rules in memory -/
def RulesAt (w : World) (v : Value) (rs : List Rul) : Prop :=
  ∃ a cap, v = .slice a rs.length cap ∧ ∀ j (h : j < rs.length), ∃ g o, a = some ⟨g, o, none⟩ ∧ w.cell? ⟨g, o + j * 2, none⟩ = some (strv rs[j].1) ∧ w.cell? ⟨g, o + j * 2 + 1, none⟩ = some (strv rs[j].2)

theorem RulesAt.below {w w' : World} {v : Value} {rs : List Rul} (h : RulesAt w v rs) (hb : Below w.heap.size w w') : RulesAt w' v rs := by
  obtain ⟨a, cap, hv, h⟩ := h
  refine ⟨a, cap, hv, fun j hj => ?_⟩
  obtain ⟨g, o, e1, e2, e3⟩ := h j hj
  exact ⟨g, o, e1, (hb.cell (World.block_lt_of_cell? w _ e2)).trans e2, (hb.cell (World.block_lt_of_cell? w _ e3)).trans e3⟩

/-- a category's number; below 0: none -/
def catIx (n : Wd) : Int := Lib.idxOfS catsB ⟨n.toArray⟩

def readGo : List Rul → List Wd → List (Nat × Tst) → Option (List (Nat × Tst))
  | [], _, acc => some acc
  | (n, c) :: t, seen, acc => match condL c with
    | none => none
    | some T => if catIx n < 0 ∨ n ∈ seen then none else readGo t (n :: seen) (acc ++ [((catIx n).toNat, T)])

def readL (rs : List Rul) : Option (List (Nat × Tst)) := readGo rs [[111, 116, 104, 101, 114]] []

theorem elem_set : Elem Tryz.prog 68 94 (.agg #[.int .i64 0, .nilFunc]) 2 16 :=
  ⟨Tryz.underlying68, info_parts (by kernel_rfl), rfl, by decide, by decide⟩

/-- a row of a set, of the call's own; no test hangs on the row -/
def RowS (lo : Nat) (w : World) (sv : Value) (S : List (Nat × Tst)) : Prop :=
  ∃ vs : List Value, w.ownsRow lo 94 2 sv S.length vs ∧
    ∀ j (h : j < S.length), ∃ u l h', vs[j * 2]? = some (.int .i64 S[j].1) ∧ vs[j * 2 + 1]? = some u ∧ lo ≤ l ∧ h' ≤ w.heap.size ∧ (∀ g, sv.ownBlock = some g → g < l ∨ h' ≤ g) ∧ TestR l h' w u S[j].2

theorem RowS.nil (lo : Nat) (w : World) : RowS lo w (.slice none 0 0) [] := ⟨[], World.ownsRow_nil _ _ _ _, fun j h => absurd h (Nat.not_lt_zero j)⟩

theorem RowS.form {lo : Nat} {w : World} {sv : Value} {S : List (Nat × Tst)} (h : RowS lo w sv S) : ∃ a cap, sv = .slice a S.length cap := by
  obtain ⟨vs, ho, _⟩ := h
  exact own_slice ho

theorem RowS.lt {lo : Nat} {w : World} {sv : Value} {S : List (Nat × Tst)} (h : RowS lo w sv S) : ∀ g, sv.ownBlock = some g → lo ≤ g ∧ g < w.heap.size := by
  obtain ⟨vs, ho, _⟩ := h
  exact ho.lt

/-- the row behind what touches neither it nor what the tests hang on: one block b alone was written -/
theorem RowS.but {lo b : Nat} {w w' : World} {sv : Value} {S : List (Nat × Tst)} (h : RowS lo w sv S) (hb : But b w w') (hne : sv.ownBlock ≠ some b)
    (hl : b < lo ∨ w.heap.size ≤ b) : RowS lo w' sv S := by
  obtain ⟨vs, ho, ht⟩ := h
  refine ⟨vs, ho.kept (row := some b) ⟨hb.os, hb.tape, hb.output, hb.size, fun i hi hn => hb.block i hi (fun e => hn (by rw [e]))⟩ (.inr hne), fun j hj => ?_⟩
  obtain ⟨u, l, h', e1, e2, e3, e4, e5, e6⟩ := ht j hj
  refine ⟨u, l, h', e1, e2, e3, Nat.le_trans e4 hb.size, e5, e6.keep ⟨Nat.le_trans e4 hb.size, fun k k1 k2 => hb.block k (by omega) (by omega)⟩ (Nat.le_refl _) (Nat.le_refl _)⟩

theorem RowS.below {lo : Nat} {w w' : World} {sv : Value} {S : List (Nat × Tst)} (h : RowS lo w sv S) (hb : Below w.heap.size w w') : RowS lo w' sv S :=
  h.but (But.of (p := w.heap.size) hb) (fun e => by have := (h.lt _ e).2; omega) (.inr (Nat.le_refl _))

theorem map_below {k : TypeId} {R : Value → Option (DataW Unit × List MemPlace)} {b n : Nat} {D : DataW Unit} {w w' : World} (h : w.ownsMap Tryz.prog k R b n D) (hb : Below w.heap.size w w') : w'.ownsMap Tryz.prog k R b n D :=
  h.kept (row := none) ⟨hb.os, hb.tape, hb.output, hb.size, fun i hi _ => hb.block i hi⟩ (by simp)

theorem eql_test (fn : Fn) (first cap : Array Value) (w : World) : (binOp .eql 92 (.func fn first cap) .nilFunc).run Tryz.prog w = .ok (.bool false) w := by
  have h : ∀ d : Nat, (Op.equalIn (d + 1) 92 (.func fn first cap) .nilFunc).run Tryz.prog w = .ok false w := fun d => by
    simp [Op.equalIn, run_underlying Tryz.underlying92]
  simp only [binOp]
  simp [Op.equal, Op.maxDepth, h 9999]
theorem eql_niltest (w : World) : (binOp .eql 92 .nilFunc .nilFunc).run Tryz.prog w = .ok (.bool true) w := by
  have h : ∀ d : Nat, (Op.equalIn (d + 1) 92 .nilFunc .nilFunc).run Tryz.prog w = .ok true w := fun d => by
    simp [Op.equalIn, run_underlying Tryz.underlying92]
  simp only [binOp]
  simp [Op.equal, Op.maxDepth, h 9999]

theorem RowS.more {lo l0 h0 : Nat} {w w1 w' : World} {sv sv' : Value} {S : List (Nat × Tst)} {q : Nat × Tst} {vs : List Value} {u : Value}
    (ht : ∀ j (h : j < S.length), ∃ u l h', vs[j * 2]? = some (.int .i64 S[j].1) ∧ vs[j * 2 + 1]? = some u ∧ lo ≤ l ∧ h' ≤ w.heap.size ∧ (∀ g, sv.ownBlock = some g → g < l ∨ h' ≤ g) ∧ TestR l h' w u S[j].2) (hvl : vs.length = S.length * 2)
    (hT : TestR l0 h0 w u q.2) (hl0 : lo ≤ l0) (hh0 : h0 ≤ w.heap.size) (hg0 : ∀ g, sv.ownBlock = some g → g < l0 ∨ h0 ≤ g)
    (hb : Below w.heap.size w w1) (hgrow : w1.grownBy w' sv.ownBlock) (hat : sv'.ownBlock = sv.ownBlock ∨ sv'.ownBlock = some w1.heap.size) (ho : w'.ownsRow lo 94 2 sv' (S.length + 1) (vs ++ [.int .i64 q.1, u])) :
    RowS lo w' sv' (S ++ [q]) := by
  have hkeep : ∀ l h', h' ≤ w.heap.size → (∀ g, sv.ownBlock = some g → g < l ∨ h' ≤ g) → KeepR l h' w w' := by
    intro l h' hh hg
    refine ⟨Nat.le_trans hh (Nat.le_trans hb.size hgrow.size), fun k k1 k2 => ?_⟩
    rw [hgrow.block k (by have := hb.size; omega) (fun e => by rcases hg k e.symm with q | q <;> omega)]
    exact hb.block k (by omega)
  have hnew : ∀ l h', h' ≤ w.heap.size → (∀ g, sv.ownBlock = some g → g < l ∨ h' ≤ g) → ∀ g, sv'.ownBlock = some g → g < l ∨ h' ≤ g := by
    intro l h' hh hg g e
    rcases hat with q | q
    · exact hg g (q ▸ e)
    · rw [q] at e
      cases e
      exact .inr (Nat.le_trans hh hb.size)
  refine ⟨vs ++ [.int .i64 q.1, u], by simpa using ho, fun j hj => ?_⟩
  by_cases hjl : j < S.length
  · obtain ⟨x, l, h', e1, e2, e3, e4, e5, e6⟩ := ht j hjl
    refine ⟨x, l, h', ?_, ?_, e3, Nat.le_trans e4 (Nat.le_trans hb.size hgrow.size), hnew l h' e4 e5, ?_⟩
    · rw [List.getElem?_append_left (by omega), List.getElem_append_left hjl]; exact e1
    · rw [List.getElem?_append_left (by omega)]; exact e2
    · rw [List.getElem_append_left hjl]; exact e6.keep (hkeep l h' e4 e5) (Nat.le_refl _) (Nat.le_refl _)
  · have e : j = S.length := by simp at hj; omega
    subst e
    refine ⟨u, l0, h0, ?_, ?_, hl0, Nat.le_trans hh0 (Nat.le_trans hb.size hgrow.size), hnew l0 h0 hh0 hg0, ?_⟩
    · rw [List.getElem?_append_right (by omega), hvl, List.getElem_append_right (by omega)]; simp
    · rw [List.getElem?_append_right (by omega), hvl]; simp
    · rw [List.getElem_append_right (by omega)]
      simpa using hT.keep (hkeep l0 h0 hh0 hg0) (Nat.le_refl _) (Nat.le_refl _)

theorem RowS.set {lo cap : Nat} {w : World} {a : Option Addr} {S : List (Nat × Tst)} (h : RowS lo w (.slice a S.length cap) S) : SetR lo w.heap.size w a S := by
  obtain ⟨vs, ho, ht⟩ := h
  intro j hj
  obtain ⟨u, l, h', e1, e2, e3, e4, e5, e6⟩ := ht j hj
  obtain ⟨g, cap', hv, hg, hg2, hc⟩ := own_some ho (by omega)
  cases hv
  refine ⟨g, 0, u, rfl, ?_, ?_, hg, hg2, e6.keep (keep_refl e4) e3 e4⟩
  · rw [Nat.zero_add, hc (j * 2) (by omega)]; exact e1
  · rw [Nat.zero_add, hc (j * 2 + 1) (by omega)]; exact e2

def ReadQ (r : Option (List (Nat × Tst))) (w : World) (e : Ending) (w' : World) : Prop :=
  (match r with | none => e = .returned (.tuple #[.slice none 0 0, .bool false]) | some S => ∃ a c, e = .returned (.tuple #[.slice a S.length c, .bool true]) ∧ SetR w.heap.size w'.heap.size w' a S) ∧ Below w.heap.size w w'

/-- what the map of seen names reads -/
def SeenD (D : DataW Unit) (seen : List Wd) : Prop := Maps.IsMap D ∧ ∀ n : Wd, ∃ c : Int, D.atKey (.string n) (.lit (.int .i64 0)) = .lit (.int .i64 c) ∧ (0 < c ↔ n ∈ seen) ∧ 0 ≤ c ∧ c ≤ seen.length

/-- the loop's relation -/
def ReadRel (rs : List Rul) (r : Option (List (Nat × Tst))) (mb : Nat) (w : World) (sv : Value) (k : Nat) (wr : World) : Prop :=
  ∃ (S : List (Nat × Tst)) (seen : List Wd) (D : DataW Unit), RowS (mb + 1) wr sv S ∧ wr.ownsMap Tryz.prog 9 (plainElem Tryz.prog 3) mb (k + 1) D ∧ SeenD D seen ∧ seen.length ≤ k + 1 ∧ Below w.heap.size w wr ∧ w.heap.size ≤ mb ∧
    S.length ≤ k ∧ readGo (rs.drop k) seen S = r

theorem seen_start : SeenD ((DataW.map [] : DataW Unit).put (.string [111, 116, 104, 101, 114]) (.lit (.int .i64 1))) [[111, 116, 104, 101, 114]] := by
  refine ⟨⟨_, rfl⟩, fun n => ?_⟩
  by_cases h : n = [111, 116, 104, 101, 114]
  · subst h
    exact ⟨1, by kernel_rfl, by simp, by decide, by simp⟩
  · refine ⟨0, ?_, by simp [h], by decide, by simp⟩
    rw [Maps.atKey_put_other (by simpa using h)]
    rfl

theorem seen_more {D : DataW Unit} {seen : List Wd} {n : Wd} (h : SeenD D seen) {c : Int} (hc : D.atKey (.string n) (.lit (.int .i64 0)) = .lit (.int .i64 c)) : SeenD (D.put (.string n) (.lit (.int .i64 (c + 1)))) (n :: seen) := by
  obtain ⟨⟨es, rfl⟩, h2⟩ := h
  refine ⟨⟨_, rfl⟩, fun m => ?_⟩
  by_cases hm : m = n
  · subst hm
    obtain ⟨c', e1, e2, e3, e4⟩ := h2 m
    rw [hc] at e1
    cases e1
    exact ⟨c + 1, Maps.atKey_put_same ⟨_, rfl⟩ (by trivial) _ _, by simp; omega, by omega, by simp; omega⟩
  · obtain ⟨c', e1, e2, e3, e4⟩ := h2 m
    refine ⟨c', ?_, by simp [hm, e2], e3, by simp; omega⟩
    rw [Maps.atKey_put_other (by simpa using hm)]
    exact e1

set_option maxHeartbeats 8000000 in
theorem read_rules (rs : List Rul) (v : Value) (w : World) (hv : RulesAt w v rs) (hl : rs.length ≤ 1000000) (hz : ∀ q ∈ rs, q.1.length ≤ 1000000 ∧ q.2.length ≤ 1000000) (hT : RT0 w) (hN : NamesAt w) :
    Calls Tryz.prog 28 #[v] w (ReadQ (readL rs) w) := by
  obtain ⟨a, cap, rfl, hcell⟩ := hv
  obtain ⟨r, hr⟩ : ∃ r, readL rs = r := ⟨_, rfl⟩
  rw [hr]
  have HR := Lib.hid hr
  have HC := Lib.hid hcell
  have HZ := Lib.hid hz
  have HT := Lib.hid hT
  have HN := Lib.hid hN
  have hmm := @run_makeMap Tryz.prog
  clear hr hcell hz hT hN
  go_enter Tryz.func28, Tryz.ntmps28
  go_wp2
  obtain ⟨w1, hrun, hown1, hgrow⟩ := (World.ownsMap_made (H := Unit) w Tryz.prog 9 (plainElem Tryz.prog 3)).update (Maps.string_keyed Tryz.underlying9) Tryz.underlying64 (by unfold maxLen; omega) (WideMaps.keyOf_string_mk (s := ⟨#[111, 116, 104, 101, 114]⟩) Tryz.underlying9 (by decide)) (plainElem_int Tryz.underlying3 (q := .i64) (a := 1) (by decide))
  rw [hrun]
  simp only [Result.andThen]
  have hb : Below w.heap.size w w1 := ((Below.refl _ _).alloc (Nat.le_refl _) _).grown hgrow (by simp) (fun j hj => by cases hj; exact Nat.le_refl _)
  have HOWN := Lib.hid hown1
  clear hrun hown1 hgrow
  obtain ⟨mb, hmb⟩ : ∃ mb, mb = w.heap.size := ⟨_, rfl⟩
  rw [← hmb] at HOWN
  go_wp2
  rw [← hmb]
  have HMB := Lib.hid hmb
  clear hmb
  go_loopw [2, 13] (fun sv i wr => ∃ k : Nat, k ≤ rs.length ∧ i = .int .i64 k ∧ ReadRel rs r mb w sv k wr) (fun _ i _ => rs.length - (intOf i).toNat)
  case atStart => exact ⟨0, Nat.zero_le _, rfl, [], [[111, 116, 104, 101, 114]], _, RowS.nil _ _, HOWN.out, seen_start, by simp, hb, by have := HMB.out; omega, by simp, HR.out⟩
  case round =>
    obtain ⟨k, hk, rfl, S, seen, D, hrow, hmap, hseen, hsl, hbw, hmbw, hSk, hgo⟩ := hrel
    have HROW := Lib.hid hrow
    have HMAP := Lib.hid hmap
    have HSEEN := Lib.hid hseen
    have HGO := Lib.hid hgo
    obtain ⟨sa, sc, rfl⟩ := hrow.form
    clear hrow hmap hseen hgo hb
    by_cases hlt : k < rs.length
    · obtain ⟨g, o, rfl, c1, c2⟩ := HC.out k hlt
      have d1 := (hbw.cell (World.block_lt_of_cell? w _ c1)).trans c1
      have d2 := (hbw.cell (World.block_lt_of_cell? w _ c2)).trans c2
      clear c1 c2
      go_wp2_with fail
      have hzk := HZ.out rs[k] (List.getElem_mem hlt)
      obtain ⟨nm, hnm⟩ : ∃ nm, rs[k].1 = nm := ⟨_, rfl⟩
      obtain ⟨wh, hwh⟩ : ∃ wh, rs[k].2 = wh := ⟨_, rfl⟩
      rw [hnm, hwh] at hzk
      rw [hnm] at d1 ⊢
      rw [hwh] at d2 ⊢
      have F : ∃ W, W = wr.alloc (.cells #[strv nm, strv wh] 32) ∧ Below wr.heap.size wr W ∧ W.cell? ⟨wr.heap.size, 0, none⟩ = some (strv nm) ∧ W.cell? ⟨wr.heap.size, 1, none⟩ = some (strv wh) := ⟨_, rfl, (Below.refl _ _).alloc (Nat.le_refl _) _, cell_made _ _ _ _ _, cell_made _ _ _ _ _⟩
      obtain ⟨W, hW, hbW, b0, b1⟩ := F
      rw [← hW]
      have hstep : readGo (rs.drop k) seen S = match condL wh with
          | none => none
          | some T => if catIx nm < 0 ∨ nm ∈ seen then none else readGo (rs.drop (k + 1)) (nm :: seen) (S ++ [((catIx nm).toNat, T)]) := by
        rw [List.drop_eq_getElem_cons hlt]
        have hp : rs[k] = (nm, wh) := by rw [← hnm, ← hwh]
        rw [hp, readGo]
      rw [HGO.out] at hstep
      have HST := Lib.hid hstep
      have hbW0 : Below w.heap.size w W := hbw.trans (hbW.mono hbw.size)
      obtain ⟨B, hB⟩ : ∃ B, B = wr.heap.size := ⟨_, rfl⟩
      rw [← hB] at b0 b1 ⊢
      have HBB := Lib.hid hB
      clear hW hstep hnm hwh d1 d2 hB
      have hS0 : W.drew.cell? ⟨B, 0, none⟩ = some (strv nm) := b0
      refine wp_region_takes (fun W' : World => W'.cell? ⟨B, 0, none⟩ = some (strv nm)) [0, 1, 2] 2 (by intro _ _ d _ _ h; cases d <;> exact h) (by kernel_rfl) (by kernel_rfl) hS0 ?_
      (iterate 3 (first | (refine takes_yes (v := ?_) rfl (by rfl) ?_ ?_; rotate_left; (focus ((intro w' hS'; (try dsimp only at hS'); go_simp; try (with_reducible rfl)); done)); (try simp only [Act.put, List.setIfInBounds_toArray, List.set_cons_zero, List.set_cons_succ])) | (refine takes_no rfl (by rfl) ?_; (try simp only [Act.put, List.setIfInBounds_toArray, List.set_cons_zero, List.set_cons_succ]))))
      refine takes_nil ?_
      refine wpAnyH_only 3 (by kernel_rfl) rfl (fun K hK => ?_)
      go_simp
      have hnd : NamesAt W.drew := HN.out.below (show Below w.heap.size w W.drew from hbW0.drew)
      refine (Tryz.slices_Index_string 0 0 6 6 catsB ⟨nm.toArray⟩ _ (by decide) (by decide) (fun j hj => by rw [Nat.zero_add]; exact hnd j hj)).mono ?_
      rintro e w' ⟨rfl, rfl⟩
      refine hK.out _ _ hS0 (fun _ => ?_)
      clear hK K
      refine wpAnyH_more [4] 0 rfl (by intro _ _ d _ _ h; cases d <;> exact h) (by kernel_rfl) (by kernel_rfl) hS0 ?_
      (iterate 1 (first | (refine takes_yes (v := ?_) rfl (by rfl) ?_ ?_; rotate_left; (focus ((intro w' hS'; (try dsimp only at hS'); go_simp; try (with_reducible rfl)); done)); (try simp only [Act.put, List.setIfInBounds_toArray, List.set_cons_zero, List.set_cons_succ])) | (refine takes_no rfl (by rfl) ?_; (try simp only [Act.put, List.setIfInBounds_toArray, List.set_cons_zero, List.set_cons_succ]))))
      refine takes_nil ?_
      refine wpAnyH_done (by kernel_rfl) ?_ _
      have hix : Lib.idxOfS (catsB.take 6) ⟨nm.toArray⟩ = catIx nm := rfl
      rw [hix]
      obtain ⟨ix, hixx⟩ : ∃ ix, catIx nm = ix := ⟨_, rfl⟩
      rw [hixx] at HST ⊢
      have hcnd := condition_any ⟨wh.toArray⟩ W.drew (by rw [size_mk]; omega) (HT.out.below hbW0.drew)
      rw [toList_mk] at hcnd
      have HCND := Lib.hid hcnd
      have b1d : W.drew.cell? ⟨B, 1, none⟩ = some (strv wh) := b1
      clear hix hixx hcnd hnd
      go_wp2_with fail
      refine HCND.out.mono ?_
      rintro e w3 ⟨hq, hb3⟩
      have hb3' : Below W.heap.size W w3 := (Below.refl _ W).drew.trans hb3
      have hbw3 : Below w.heap.size w w3 := hbW0.trans (hb3'.mono hbW0.size)
      have hB : B < W.heap.size := World.block_lt_of_cell? W _ b0
      have e0 := (hb3'.cell (p := ⟨B, 0, none⟩) hB).trans b0
      have HROW3 := Lib.hid ((HROW.out.below hbW).below hb3')
      have HMAP3 := Lib.hid (map_below (map_below HMAP.out hbW) hb3')
      obtain ⟨c, hlook, hat, hwf⟩ := HMAP3.out.lookup_int (Maps.string_keyed Tryz.underlying9) Tryz.underlying64 Tryz.underlying3 (q := .i64) (by first | rfl | simp [go_sem]) (key := strv nm) (WideMaps.keyOf_string_mk (s := ⟨nm.toArray⟩) Tryz.underlying9 (by rw [size_mk]; unfold maxLen; omega))
      rw [toList_mk] at hat
      obtain ⟨c', hs1, hs2, hs3, hs4⟩ := HSEEN.out.2 nm
      rw [hs1] at hat
      cases hat
      have hef := eql_test
      have hen := eql_niltest
      cases hc : condL wh with
      | none =>
        rw [hc] at hq
        obtain rfl := hq
        have hrn : r = none := by rw [HST.out, hc]
        have HRN := Lib.hid hrn
        clear hc hrn hs2 hs1
        by_cases h1 : ix < 0
        · have g1 : decide (ix < 0) = true := decide_eq_true h1
          go_wp2
          go_ret2
          refine ⟨?_, hbw3⟩
          rw [HRN.out]
          rfl
        · have g1 : decide (ix < 0) = false := decide_eq_false h1
          by_cases h2 : 0 < c
          · have g2 : decide (0 < c) = true := decide_eq_true h2
            go_wp2
            go_ret2
            refine ⟨?_, hbw3⟩
            rw [HRN.out]
            rfl
          · have g2 : decide (0 < c) = false := decide_eq_false h2
            go_wp2
            go_ret2
            refine ⟨?_, hbw3⟩
            rw [HRN.out]
            rfl
      | some T =>
        rw [hc] at hq
        obtain ⟨tv, rfl, hT3⟩ := hq
        have hst := HST.out
        rw [hc] at hst
        dsimp only at hst
        have HST2 := Lib.hid hst
        have HFT := Lib.hid hT3
        obtain ⟨kf, cpf, rfl, _⟩ := hT3
        clear hc hst
        by_cases h1 : ix < 0
        · have g1 : decide (ix < 0) = true := decide_eq_true h1
          have hrn : r = none := by rw [HST2.out, if_pos (.inl h1)]
          have HRN := Lib.hid hrn
          clear hrn hs2 hs1
          go_wp2
          go_ret2
          refine ⟨?_, hbw3⟩
          rw [HRN.out]
          rfl
        · have g1 : decide (ix < 0) = false := decide_eq_false h1
          by_cases h2 : 0 < c
          · have g2 : decide (0 < c) = true := decide_eq_true h2
            have hrn : r = none := by rw [HST2.out, if_pos (.inr (hs2.1 h2))]
            have HRN := Lib.hid hrn
            clear hrn hs2 hs1
            go_wp2
            go_ret2
            refine ⟨?_, hbw3⟩
            rw [HRN.out]
            rfl
          · obtain rfl : c = 0 := by omega
            have hns : ¬ nm ∈ seen := fun hm => h2 (hs2.2 hm)
            have hrc : readGo (rs.drop (k + 1)) (nm :: seen) (S ++ [(ix.toNat, T)]) = r := by rw [HST2.out, if_neg (fun q => q.elim h1 hns)]
            have HRC := Lib.hid hrc
            have HS1 := Lib.hid hs1
            obtain ⟨iN, hiN⟩ : ∃ iN : Nat, ix = (iN : Int) := ⟨ix.toNat, by omega⟩
            subst hiN
            rw [Int.toNat_natCast] at HRC
            obtain ⟨w4, hupd, hmap4, hg4⟩ := HMAP3.out.update (Maps.string_keyed Tryz.underlying9) Tryz.underlying64 (by unfold maxLen; omega) (key := strv nm) (WideMaps.keyOf_string_mk (s := ⟨nm.toArray⟩) Tryz.underlying9 (by rw [size_mk]; unfold maxLen; omega)) (plainElem_int Tryz.underlying3 (q := .i64) (a := 1) (by decide))
            rw [toList_mk] at hmap4
            have hbut4 : But mb w3 w4 := ⟨hg4.os, hg4.tape, hg4.output, hg4.size, fun i hi hn => hg4.block i hi (fun e => hn (by cases e; rfl))⟩
            have hmbl := HMAP3.out.lt
            have hrow4 : RowS (mb + 1) w4 (.slice sa S.length sc) S := HROW3.out.but hbut4 (fun e => by have := (HROW3.out.lt _ e).1; omega) (.inl (Nat.lt_succ_self _))
            have hbw4 : Below w.heap.size w w4 := hbw3.grown hg4 hbw3.size (fun q hq => by cases hq; exact hmbw)
            have hmW : mb < wr.heap.size := HMAP.out.lt
            have hft4 : TestR W.drew.heap.size w3.heap.size w4 (.func (.func kf) #[] cpf) T := HFT.out.keep ⟨hg4.size, fun j j1 j2 => hg4.block j j2 (fun e => by cases e; have := hbW.size; change W.heap.size ≤ mb at j1; omega)⟩ (Nat.le_refl _) (Nat.le_refl _)
            have HFT4 := Lib.hid hft4
            have HMAP4 := Lib.hid hmap4
            obtain ⟨vs, ho4, ht4⟩ := hrow4
            have HO4 := Lib.hid ho4
            have HT4 := Lib.hid ht4
            have e04 : w4.cell? ⟨B, 0, none⟩ = some (strv nm) := hbut4.cell e0 (by show B ≠ mb; have := HBB.out; omega)
            clear hs1 hs2 hrc hft4 hmap4 ho4 ht4 hns h1 h2
            go_wp2_with (at_builtin; refine app_own_at elem_set rfl _ _ rfl (mb + 1) _ S.length vs rfl (HO4.out.alloc _) ⟨w4.heap.size, 0, none⟩ 1 1 [.int .i64 iN, .func (.func kf) #[] cpf] rfl rfl ?k1 ?k2 ?k3 ?k4 ?_)
            case k1 =>
              intro j u hu
              rw [addr_add0]
              match j, hu with
              | 0, hu => simp at hu; subst hu; exact cell_made _ _ _ _ _
              | 1, hu => simp at hu; subst hu; exact cell_made _ _ _ _ _
            case k2 =>
              intro u hu
              simp at hu
              rcases hu with rfl | rfl <;> rfl
            case k3 => omega
            case k4 => have := hg4.size; have := hbW.size; have := hb3'.size; simp; omega
            intro sv' w5 ho5 hg5 hat5
            have hbA : Below w4.heap.size w4 (w4.alloc (.cells #[.int .i64 iN, .func (.func kf) #[] cpf] 94)) := (Below.refl _ _).alloc (Nat.le_refl _) _
            have hrow5 : RowS (mb + 1) w5 sv' (S ++ [(iN, T)]) :=
              RowS.more HT4.out (by have := HO4.out.1; omega) HFT4.out (by have := hbW.size; show mb + 1 ≤ W.heap.size; omega) hg4.size (fun q hq => .inl (by have := (HROW.out.lt q hq).2; have := hbW.size; show q < W.heap.size; omega)) hbA hg5 (by simpa using hat5) ho5
            have hmap5 := (HMAP4.out.alloc (.cells #[.int .i64 iN, .func (.func kf) #[] cpf] 94)).kept hg5 (fun e => by have := (HROW.out.lt mb e.symm).1; omega)
            have hbw5 : Below w.heap.size w w5 := (hbw4.alloc hbw4.size _).grown hg5 (by have := hbw4.size; simp; omega) (fun q hq => by have := (HROW.out.lt q hq).1; omega)
            obtain ⟨a5, c5, rfl⟩ := own_slice ho5
            have HROW5 := Lib.hid hrow5
            have HMAP5 := Lib.hid hmap5
            clear hrow5 hmap5 ho5 hg5 hat5 hbA
            go_wp2
            go_roundw
            case rel => exact ⟨k + 1, by omega, by go_num, S ++ [(iN, T)], nm :: seen, _, by simpa using HROW5.out, HMAP5.out, seen_more HSEEN.out HS1.out, by simp; omega, hbw5, hmbw, by simp; omega, HRC.out⟩
            case measure => simp [intOf]; omega
    · obtain rfl : k = rs.length := by omega
      have hgo := HGO.out
      rw [List.drop_of_length_le (Nat.le_refl _)] at hgo
      have hr : r = some S := by rw [← hgo, readGo]
      have HRR := Lib.hid hr
      clear hgo hr
      go_wp2
      go_ret2
      refine ⟨?_, hbw⟩
      rw [HRR.out]
      exact ⟨sa, sc, rfl, HROW.out.set.keep (keep_refl (Nat.le_refl _)) (by omega) (Nat.le_refl _)⟩
end Go.Proofs.YtkhdbolnhcfgkaaGreatDoor

/- The document's rules: Rule, Ruled, Sort as plain functions; and the plain law: what plural.Read says. -/
namespace Go.Proofs.YtkhdbolnhcfgkaaGreatDoor
open Go

/-- is a text a rule -/
def ruleB (s : List UInt8) : Bool := (holdsL s ([48], [])).isSome

theorem good_zero : Good ([48], []) := by unfold Good; decide

theorem rule_cond (s : List UInt8) : ruleB s = (condL s).isSome := by
  unfold ruleB
  rw [cond_law s good_zero]
  cases condL s <;> rfl
end Go.Proofs.YtkhdbolnhcfgkaaGreatDoor

/- The plain law of rules: what the document says of a list of rules, and of the category of a number, against what plural.Read's set says. -/
namespace Go.Proofs.YtkhdbolnhcfgkaaGreatDoor
open Go

/-- a category's name -/
def nmL (k : Nat) : Wd := (catsB.getD k ByteArray.empty).data.toList
def othW : Wd := [111, 116, 104, 101, 114]
/-- the categories but 'other' -/
def cats5 : List Wd := [[122, 101, 114, 111], [111, 110, 101], [116, 119, 111], [102, 101, 119], [109, 97, 110, 121]]

def ruledGo : List Rul → List Wd → Bool
  | [], _ => true
  | (n, c) :: t, seen => decide (n ∈ cats5) && (!(decide (n ∈ seen)) && (ruleB c && ruledGo t (seen ++ [n])))
def ruledL (rs : List Rul) : Bool := ruledGo rs []

/-- the first rule's name that holds -/
def sortL : List Rul → Dg → Wd
  | [], _ => othW
  | (n, c) :: t, x => if holdsL c x = some true then n else sortL t x

theorem cat_mem (n : Wd) : 0 ≤ catIx n ↔ n ∈ cats5 ∨ n = othW := by
  unfold catIx
  rw [Lib.idxOfS_nonneg_iff]
  constructor
  · intro h
    simp only [catsB, List.mem_cons, List.not_mem_nil, or_false] at h
    have e : ∀ (a : Array UInt8), (⟨n.toArray⟩ : ByteArray) = ⟨a⟩ → n = a.toList := fun a q => by
      have := congrArg (fun b : ByteArray => b.data.toList) q
      simpa using this
    rcases h with h | h | h | h | h | h <;> (have := e _ h; simp at this; subst this; simp [cats5, othW])
  · rintro (h | h)
    · simp only [cats5, List.mem_cons, List.not_mem_nil, or_false] at h
      rcases h with h | h | h | h | h <;> (subst h; simp [catsB])
    · subst h
      simp [catsB, othW]

theorem cat_name {n : Wd} (h : 0 ≤ catIx n) : nmL (catIx n).toNat = n := by
  rcases (cat_mem n).1 h with h | h
  · simp only [cats5, List.mem_cons, List.not_mem_nil, or_false] at h
    rcases h with h | h | h | h | h <;> (subst h; decide)
  · subst h
    decide

theorem ruled_read : ∀ (rs : List Rul) (s1 s2 : List Wd) (acc : List (Nat × Tst)), (∀ n, n ∈ s1 ↔ n ∈ s2 ∨ n = othW) → ruledGo rs s2 = (readGo rs s1 acc).isSome
  | [], _, _, _, _ => rfl
  | (n, c) :: t, s1, s2, acc, hs => by
    unfold ruledGo readGo
    rw [rule_cond]
    cases hc : condL c with
    | none => simp
    | some T =>
      dsimp only
      by_cases hn : catIx n < 0 ∨ n ∈ s1
      · rw [if_pos hn]
        have hno : n ∈ cats5 → n ∈ s2 := fun hm => by
          rcases hn with q | q
          · exact absurd ((cat_mem n).2 (.inl hm)) (by omega)
          · rcases (hs n).1 q with q | q
            · exact q
            · subst q; exact absurd hm (by decide)
        by_cases hm : n ∈ cats5
        · simp [hno hm]
        · simp [hm]
      · rw [if_neg hn]
        have h0 : 0 ≤ catIx n := by omega
        have h1 : n ∉ s1 := fun q => hn (.inr q)
        have h2 : n ∉ s2 := fun q => h1 ((hs n).2 (.inl q))
        have h3 : n ≠ othW := fun q => h1 ((hs n).2 (.inr q))
        have h4 : n ∈ cats5 := by
          rcases (cat_mem n).1 h0 with q | q
          · exact q
          · exact absurd q h3
        rw [← ruled_read t (n :: s1) (s2 ++ [n]) (acc ++ [((catIx n).toNat, T)]) (fun m => by
          simp only [List.mem_cons, List.mem_append, hs m, List.not_mem_nil, or_false]
          constructor
          · rintro (q | q | q)
            · exact .inl (.inr q)
            · exact .inl (.inl q)
            · exact .inr q
          · rintro ((q | q) | q)
            · exact .inr (.inl q)
            · exact .inl q
            · exact .inr (.inr q))]
        simp [h2, h4]

/-- the rules are rules just where the set is read -/
theorem ruled_law (rs : List Rul) : ruledL rs = (readL rs).isSome := ruled_read rs _ _ _ (fun n => by simp [othW])

def nameOf (S : List (Nat × Tst)) (x : Dg) : Wd := match S.find? (fun q => q.2 x) with | some q => nmL q.1 | none => othW

theorem name_of (S : List (Nat × Tst)) (x : Dg) : nmL (ofL S x) = nameOf S x := by
  unfold ofL nameOf
  cases S.find? (fun q => q.2 x) with
  | some q => rfl
  | none => show nmL 5 = othW; decide

theorem read_sort : ∀ (rs : List Rul) (seen : List Wd) (acc S : List (Nat × Tst)), readGo rs seen acc = some S → ∃ S', S = acc ++ S' ∧ S'.length = rs.length ∧ (∀ q ∈ S', q.1 < 6) ∧ ∀ x, Good x → nameOf S' x = sortL rs x
  | [], _, acc, S, h => by
    cases h
    exact ⟨[], by simp, rfl, (by simp), fun x _ => rfl⟩
  | (n, c) :: t, seen, acc, S, h => by
    unfold readGo at h
    cases hc : condL c with
    | none => rw [hc] at h; cases h
    | some T =>
      rw [hc] at h
      dsimp only at h
      by_cases hn : catIx n < 0 ∨ n ∈ seen
      · rw [if_pos hn] at h; cases h
      · rw [if_neg hn] at h
        obtain ⟨S', rfl, hl, h6, hx⟩ := read_sort t _ _ _ h
        have h0 : 0 ≤ catIx n := by omega
        refine ⟨((catIx n).toNat, T) :: S', by simp, by simp [hl], ?_, fun x hg => ?_⟩
        · intro q hq
          rcases List.mem_cons.1 hq with rfl | hq
          · show (catIx n).toNat < 6
            rcases (cat_mem n).1 h0 with h | h
            · simp only [cats5, List.mem_cons, List.not_mem_nil, or_false] at h
              rcases h with h | h | h | h | h <;> (subst h; decide)
            · subst h
              decide
          · exact h6 q hq
        · have hcl := cond_law c hg
          rw [hc] at hcl
          unfold sortL
          rw [hcl]
          unfold nameOf
          cases hT : T x
          · rw [List.find?_cons_of_neg (by simp [hT]), if_neg (by simp [hT])]
            exact hx x hg
          · rw [List.find?_cons_of_pos (by simp [hT]), if_pos (by simp [hT])]
            exact cat_name h0

/-- the category of a number -/
theorem sort_law {rs : List Rul} {S : List (Nat × Tst)} (h : readL rs = some S) {x : Dg} (hx : Good x) : nmL (ofL S x) = sortL rs x := by
  obtain ⟨S', rfl, -, -, hs⟩ := read_sort rs _ _ _ h
  rw [name_of]
  exact hs x hx
theorem read_len {rs : List Rul} {S : List (Nat × Tst)} (h : readL rs = some S) : S.length = rs.length ∧ ∀ q ∈ S, q.1 < 6 := by
  obtain ⟨S', rfl, hl, h6, -⟩ := read_sort rs _ _ _ h
  exact ⟨by simpa using hl, by simpa using h6⟩
end Go.Proofs.YtkhdbolnhcfgkaaGreatDoor

/- The document's rules: holds and Rule, of whatever text. -/
namespace Go.Proofs.YtkhdbolnhcfgkaaGreatDoor
open Go Go.RowKit
set_option maxRecDepth 10000

theorem holds_any (s : ByteArray) (b : Bool) (wh fr : ByteArray) (w : World) (hs : s.size ≤ 1000000)
    (hwd : wh.data.toList.all isDig = true) (hfd : fr.data.toList.all isDig = true) (hwl : wh.size ≤ 1000) (hfl : fr.size ≤ 1000) :
    Calls Tryz.prog 26 #[.string s, .agg #[.bool b, .string wh, .string fr]] w (HoldsPost (holdsL s.data.toList (wh.data.toList, fr.data.toList)) w) := by
  unfold holdsL
  rw [size_toList]
  by_cases h2 : 200 < s.size
  · rw [if_pos h2]
    exact (holds_bad s b wh fr w hs (.inr h2)).mono fun e w' q => q
  · rw [if_neg h2]
    cases hw : wordsL s.data.toList with
    | none => exact (holds_bad s b wh fr w hs (.inl hw)).mono fun e w' q => q
    | some ws => exact holds_good s b wh fr ws w (by omega) hw hwd hfd hwl hfl

set_option maxHeartbeats 1000000 in
theorem rule_any (s : ByteArray) (w : World) (hs : s.size ≤ 1000000) :
    Calls Tryz.prog 22 #[.string s] w fun e w' => e = .returned (.bool (ruleB s.data.toList)) ∧ Below w.heap.size w w' := by
  have HH := Lib.hid (holds_any s false ⟨#[48]⟩ ⟨#[]⟩ w hs (by decide) (by decide) (by decide) (by decide))
  have HB := Lib.hid (show (holdsL s.data.toList ((⟨#[48]⟩ : ByteArray).data.toList, (⟨#[]⟩ : ByteArray).data.toList)).isSome = ruleB s.data.toList from rfl)
  go_enter Tryz.func22, Tryz.ntmps22
  go_wp2_with fail
  refine HH.out.mono ?_
  rintro e w1 ⟨rfl, hb⟩
  rw [HB.out]
  go_wp2
  go_ret
  exact ⟨rfl, hb⟩
end Go.Proofs.YtkhdbolnhcfgkaaGreatDoor

/- The document's rules: Sort. -/
namespace Go.Proofs.YtkhdbolnhcfgkaaGreatDoor
open Go Go.RowKit
set_option maxRecDepth 10000

def SortRel (rs : List Rul) (x : Dg) (W : World) (i : Value) (wr : World) : Prop :=
  ∃ k : Nat, k ≤ rs.length ∧ i = .int .i64 k ∧ sortL rs x = sortL (rs.drop k) x ∧ Below W.heap.size W wr

theorem sort_step {rs : List Rul} {x : Dg} {k : Nat} (hk : k < rs.length) (h : sortL rs x = sortL (rs.drop k) x) : sortL rs x = if holdsL rs[k].2 x = some true then rs[k].1 else sortL (rs.drop (k + 1)) x := by
  rw [h, List.drop_eq_getElem_cons hk, sortL]

set_option maxHeartbeats 3000000 in
theorem sort_any (v : Value) (rs : List Rul) (b : Bool) (wh fr : ByteArray) (w : World) (h : RulesAt w v rs) (hn : rs.length ≤ 1000000) (hl : ∀ r ∈ rs, r.2.length ≤ 1000000)
    (hwd : wh.data.toList.all isDig = true) (hfd : fr.data.toList.all isDig = true) (hwl : wh.size ≤ 1000) (hfl : fr.size ≤ 1000) :
    Calls Tryz.prog 14 #[v, .agg #[.bool b, .string wh, .string fr]] w fun e w' => e = .returned (strv (sortL rs (wh.data.toList, fr.data.toList))) ∧ Below w.heap.size w w' := by
  obtain ⟨a, cap, rfl, hc⟩ := h
  have HC := Lib.hid hc
  have HL := Lib.hid hl
  clear hc hl
  obtain ⟨x, hxx⟩ : ∃ x : Dg, x = (wh.data.toList, fr.data.toList) := ⟨_, rfl⟩
  rw [← hxx]
  obtain ⟨R, hR⟩ : ∃ R, sortL rs x = R := ⟨_, rfl⟩
  rw [hR]
  have HR := Lib.hid hR
  have HXX := Lib.hid hxx
  clear hR hxx
  go_enter Tryz.func14, Tryz.ntmps14
  go_wp2_with fail
  refine wp_gen ?_
  intro W hW
  have hbW : Below w.heap.size w W := by rw [hW]; exact (Below.refl _ _).alloc (Nat.le_refl _) _
  have f0 : W.cell? ⟨w.heap.size, 0, none⟩ = some (.bool b) := by rw [hW]; exact cell_made _ _ _ _ _
  have f1 : W.cell? ⟨w.heap.size, 1, none⟩ = some (.string wh) := by rw [hW]; exact cell_made _ _ _ _ _
  have f2 : W.cell? ⟨w.heap.size, 2, none⟩ = some (.string fr) := by rw [hW]; exact cell_made _ _ _ _ _
  clear hW
  obtain ⟨B, hB⟩ : ∃ B, B = w.heap.size := ⟨_, rfl⟩
  rw [← hB] at f0 f1 f2 ⊢
  have HB := Lib.hid hB
  clear hB
  go_loopw [5] (fun i wr => SortRel rs x W i wr) (fun i _ => rs.length - (intOf i).toNat)
  case atStart => exact ⟨0, Nat.zero_le _, rfl, by simp, Below.refl _ _⟩
  case round =>
    obtain ⟨k, hk, rfl, hgo, hb⟩ := hrel
    have HG := Lib.hid hgo
    clear hgo
    by_cases hlt : k < rs.length
    · obtain ⟨g, o, rfl, c1, c2⟩ := HC.out k hlt
      have hbb := hbW.trans (hb.mono hbW.size)
      have d1 := (hbb.cell (World.block_lt_of_cell? _ _ c1)).trans c1
      have d2 := (hbb.cell (World.block_lt_of_cell? _ _ c2)).trans c2
      have t0 := (hb.cell (World.block_lt_of_cell? _ _ f0)).trans f0
      have t1 := (hb.cell (World.block_lt_of_cell? _ _ f1)).trans f1
      have t2 := (hb.cell (World.block_lt_of_cell? _ _ f2)).trans f2
      have hsz := HL.out _ (List.getElem_mem hlt)
      have HST := Lib.hid (sort_step hlt HG.out)
      obtain ⟨nm, wn, hnw⟩ : ∃ nm wn, rs[k] = (nm, wn) := ⟨_, _, rfl⟩
      rw [hnw] at d1 d2 hsz HST
      have HH := Lib.hid (holds_any ⟨wn.toArray⟩ b wh fr wr.drew hsz hwd hfd hwl hfl)
      clear c1 c2 hsz hnw
      have hS0 : wr.drew.cell? ⟨B, 0, none⟩ = some (.bool b) ∧ wr.drew.cell? ⟨B, 1, none⟩ = some (.string wh) ∧ wr.drew.cell? ⟨B, 2, none⟩ = some (.string fr) ∧ wr.drew.cell? ⟨g, o + k * 2 + 1, none⟩ = some (strv wn) ∧ wr.drew.cell? ⟨g, o + k * 2, none⟩ = some (strv nm) := ⟨t0, t1, t2, d2, d1⟩
      go_wp2_with fail
      refine wp_region_takes (fun W' : World => W'.cell? ⟨B, 0, none⟩ = some (.bool b) ∧ W'.cell? ⟨B, 1, none⟩ = some (.string wh) ∧ W'.cell? ⟨B, 2, none⟩ = some (.string fr) ∧ W'.cell? ⟨g, o + k * 2 + 1, none⟩ = some (strv wn) ∧ W'.cell? ⟨g, o + k * 2, none⟩ = some (strv nm)) [0, 1, 2, 3, 4, 5] 6 (by intro _ _ d _ _ h; cases d <;> exact h) (by kernel_rfl) (by kernel_rfl) hS0 ?_
      (iterate 6 (first | (refine takes_yes (v := ?_) rfl (by rfl) ?_ ?_; rotate_left; (focus ((intro w' hS'; (try dsimp only at hS'); go_simp; try (with_reducible rfl)); done)); (try simp only [Act.put, List.setIfInBounds_toArray, List.set_cons_zero, List.set_cons_succ])) | (refine takes_no rfl (by rfl) ?_; (try simp only [Act.put, List.setIfInBounds_toArray, List.set_cons_zero, List.set_cons_succ]))))
      refine takes_nil ?_
      refine wpAnyH_only 6 (by kernel_rfl) rfl (fun K hK => ?_)
      go_simp
      refine HH.out.mono ?_
      rintro e w4 ⟨rfl, hb4⟩
      rw [← HXX.out]
      have hlt4 : ∀ {p : Addr} {u : Value}, wr.cell? p = some u → w4.cell? p = some u := fun {p u} h => (hb4.cell (World.block_lt_of_cell? wr p h)).trans h
      have hS1 : w4.cell? ⟨B, 0, none⟩ = some (.bool b) ∧ w4.cell? ⟨B, 1, none⟩ = some (.string wh) ∧ w4.cell? ⟨B, 2, none⟩ = some (.string fr) ∧ w4.cell? ⟨g, o + k * 2 + 1, none⟩ = some (strv wn) ∧ w4.cell? ⟨g, o + k * 2, none⟩ = some (strv nm) := ⟨hlt4 t0, hlt4 t1, hlt4 t2, hlt4 d2, hlt4 d1⟩
      have hb5 := hb.drew.trans (hb4.mono hb.size)
      have hbb5 := hbb.drew.trans (hb4.mono hbb.size)
      have d4 := hS1.2.2.2.2
      obtain ⟨r, hr⟩ : ∃ r, holdsL wn x = r := ⟨_, rfl⟩
      rw [show holdsL (⟨wn.toArray⟩ : ByteArray).data.toList x = r from hr]
      have HRW := Lib.hid hr
      clear hr HH
      obtain ⟨is, his⟩ : ∃ s, r.isSome = s := ⟨_, rfl⟩
      rw [his]
      clear his
      by_cases ht : r = some true
      · subst ht
        rw [if_pos HRW.out] at HST
        go_simp
        refine hK.out _ _ hS1 (fun _ => ?_)
        clear hK K
        refine wpAnyH_more [7, 8, 9, 10, 11] 0 rfl (by intro _ _ d _ _ h; cases d <;> exact h) (by kernel_rfl) (by kernel_rfl) hS1 ?_
        (iterate 5 (first | (refine takes_yes (v := ?_) rfl (by rfl) ?_ ?_; rotate_left; (focus ((intro w' hS'; (try dsimp only at hS'); go_simp; try (with_reducible rfl)); done)); (try simp only [Act.put, List.setIfInBounds_toArray, List.set_cons_zero, List.set_cons_succ])) | (refine takes_no rfl (by rfl) ?_; (try simp only [Act.put, List.setIfInBounds_toArray, List.set_cons_zero, List.set_cons_succ]))))
        refine takes_nil ?_
        refine wpAnyH_done (by kernel_rfl) ?_ _
        go_wp2
        go_ret
        exact ⟨by rw [← HR.out, HST.out]; rfl, hbb5⟩
      · rw [if_neg (fun q => ht (HRW.out.symm.trans q))] at HST
        have hgd : r.getD false = false := by
          cases r with
          | none => rfl
          | some q => cases q; rfl; exact absurd rfl ht
        rw [hgd]
        clear hgd ht
        go_simp
        refine hK.out _ _ hS1 (fun _ => ?_)
        clear hK K
        refine wpAnyH_more [7, 8, 9, 10, 11] 0 rfl (by intro _ _ d _ _ h; cases d <;> exact h) (by kernel_rfl) (by kernel_rfl) hS1 ?_
        (iterate 5 (first | (refine takes_yes (v := ?_) rfl (by rfl) ?_ ?_; rotate_left; (focus ((intro w' hS'; (try dsimp only at hS'); go_simp; try (with_reducible rfl)); done)); (try simp only [Act.put, List.setIfInBounds_toArray, List.set_cons_zero, List.set_cons_succ])) | (refine takes_no rfl (by rfl) ?_; (try simp only [Act.put, List.setIfInBounds_toArray, List.set_cons_zero, List.set_cons_succ]))))
        refine takes_nil ?_
        refine wpAnyH_done (by kernel_rfl) ?_ _
        go_wp2
        go_roundw
        case rel => exact ⟨k + 1, by omega, by go_num, HST.out, hb5⟩
        case measure => simp [intOf]; omega
    · obtain rfl : k = rs.length := by omega
      have hgo := HG.out
      rw [List.drop_length, sortL, HR.out] at hgo
      have HF := Lib.hid hgo
      clear hgo
      go_wp2
      go_ret
      exact ⟨by rw [HF.out]; rfl, hbW.trans (hb.mono hbW.size)⟩
end Go.Proofs.YtkhdbolnhcfgkaaGreatDoor

/- phrasesref.categories. -/
namespace Go.Proofs.YtkhdbolnhcfgkaaGreatDoor
open Go Go.RowKit
set_option maxRecDepth 10000

def catsL : List (List UInt8) := [[122, 101, 114, 111], [111, 110, 101], [116, 119, 111], [102, 101, 119], [109, 97, 110, 121], [111, 116, 104, 101, 114]]

def CatsPost (w : World) (e : Ending) (w' : World) : Prop :=
  ∃ v, e = .returned v ∧ w'.ownsRow w.heap.size 9 1 v 6 (catsL.map strv) ∧ Below w.heap.size w w'

theorem categories_any (w : World) : Calls Tryz.prog 20 #[] w (CatsPost w) := by
  go_enter Tryz.func20, Tryz.ntmps20
  go_wp2
  go_ret
  exact ⟨_, rfl, World.ownsRow_lit w _ 6 (Nat.le_refl _) (by decide) rfl, (Below.refl _ _).alloc (Nat.le_refl _) _⟩
end Go.Proofs.YtkhdbolnhcfgkaaGreatDoor

/- The document's rules: Ruled, of whatever list. -/
namespace Go.Proofs.YtkhdbolnhcfgkaaGreatDoor
open Go Go.RowKit
set_option maxRecDepth 10000

/-- a row of the call's own that is not empty, with its capacity -/
theorem own_rowm {w : World} {base size n : Nat} {e : TypeId} {v : Value} {xs : List Value} (h : w.ownsRow base e size v n xs) (hn : 0 < n) :
    ∃ g cap, v = .slice (some ⟨g, 0, none⟩) n cap ∧ base ≤ g ∧ g < w.heap.size ∧ n ≤ cap ∧ cap ≤ maxLen ∧ ∀ j, j < n * size → w.cell? ⟨g, j, none⟩ = xs[j]? := by
  have hlt := h.lt
  rcases h.2 with ⟨_, h0⟩ | ⟨g, cap, cur, hv, hg, hh, h1, h2, _, ht⟩
  · omega
  · subst hv
    exact ⟨g, cap, rfl, hg, (hlt g rfl).2, h1, h2, fun j hj => h.cellAt j hj⟩

theorem ruled_step {rs : List Rul} {k : Nat} {nm wh : Wd} {seen : List Wd} {r : Bool} (hk : k < rs.length) (hp : rs[k] = (nm, wh)) (h : ruledGo (rs.drop k) seen = r) :
    r = (decide (nm ∈ cats5) && (!(decide (nm ∈ seen)) && (ruleB wh && ruledGo (rs.drop (k + 1)) (seen ++ [nm])))) := by
  rw [← h, List.drop_eq_getElem_cons hk, hp, ruledGo]

def RuledRel (rs : List Rul) (r : Bool) (w : World) (sv i : Value) (wr : World) : Prop :=
  ∃ (k : Nat) (seen : List Wd), k ≤ rs.length ∧ i = .int .i64 k ∧ wr.ownsRow w.heap.size 9 1 sv seen.length (seen.map strv) ∧ Below w.heap.size w wr ∧ seen.length ≤ k ∧ ruledGo (rs.drop k) seen = r

set_option maxHeartbeats 4000000 in
theorem ruled_real (v : Value) (rs : List Rul) (w : World) (h : RulesAt w v rs) (hn : rs.length ≤ 1000000) (hl : ∀ r ∈ rs, r.2.length ≤ 1000000) :
    Calls Tryz.prog 12 #[v] w fun e w' => e = .returned (.bool (ruledL rs)) ∧ Below w.heap.size w w' := by
  obtain ⟨a, cap, rfl, hc⟩ := h
  have HC := Lib.hid hc
  have HL := Lib.hid hl
  clear hc hl
  obtain ⟨r, hr⟩ : ∃ r, ruledL rs = r := ⟨_, rfl⟩
  rw [hr]
  have HR := Lib.hid hr
  clear hr
  go_enter Tryz.func12, Tryz.ntmps12
  go_wp2_with fail
  refine (categories_any _).mono ?_
  rintro e w1 ⟨cv, rfl, hown, hb1⟩
  obtain ⟨cg, cc, rfl, hcg0, hcg1, hcc, hcm, hcell⟩ := own_rowm hown (by decide)
  have hst : StrsAt w1 (.slice (some ⟨cg, 0, none⟩) 5 cc) cats5 := ⟨_, _, rfl, by show 5 ≤ cc; omega, hcm, (fun q => by cases q), fun j hj => ⟨_, rfl, by
    rw [addr_add0, hcell j (by have : j < 5 := hj; omega)]
    have hj5 : j < 5 := hj
    match j, hj5 with
    | 0, _ => rfl
    | 1, _ => rfl
    | 2, _ => rfl
    | 3, _ => rfl
    | 4, _ => rfl⟩⟩
  have HST := Lib.hid hst
  unfold maxLen at hcm
  clear hown hcell hst hcg0 hcg1
  go_wp2
  go_loopw [3, 5] (fun sv i wr => RuledRel rs r w1 sv i wr) (fun _ i _ => rs.length - (intOf i).toNat)
  case atStart => exact ⟨0, [], Nat.zero_le _, rfl, World.ownsRow_nil _ _ _ _, Below.refl _ _, Nat.le_refl _, HR.out⟩
  case round =>
    obtain ⟨k, seen, hk, rfl, hown, hb, hsl, hgo⟩ := hrel
    have HG := Lib.hid hgo
    have HO := Lib.hid hown
    obtain ⟨sa, sc, rfl⟩ := own_slice hown
    clear hgo hown
    have hbb := hb1.trans (hb.mono hb1.size)
    by_cases hlt : k < rs.length
    · obtain ⟨g, o, rfl, c1, c2⟩ := HC.out k hlt
      have d1 := (hbb.cell (World.block_lt_of_cell? _ _ c1)).trans c1
      have d2 := (hbb.cell (World.block_lt_of_cell? _ _ c2)).trans c2
      have hsz := HL.out _ (List.getElem_mem hlt)
      obtain ⟨nm, wh, hnw⟩ : ∃ nm wh, rs[k] = (nm, wh) := ⟨_, _, rfl⟩
      have HSTEP := Lib.hid (ruled_step hlt hnw HG.out)
      rw [hnw] at d1 d2 hsz
      have HW := Lib.hid hsz
      clear c1 c2 hsz hnw
      have hp1 := place_any _ cats5 ⟨nm.toArray⟩ wr (HST.out.below hb) (by decide)
      have hp2 := place_any _ seen ⟨nm.toArray⟩ wr (StrsAt.of_own HO.out) (by omega)
      have hrl := rule_any ⟨wh.toArray⟩ wr (by rw [size_mk]; exact HW.out)
      rw [toList_mk] at hp1 hp2 hrl
      obtain ⟨pa, hpa⟩ : ∃ pa, placeL cats5 nm = pa := ⟨_, rfl⟩
      obtain ⟨pb, hpb⟩ : ∃ pb, placeL seen nm = pb := ⟨_, rfl⟩
      obtain ⟨pc, hpc⟩ : ∃ pc, ruleB wh = pc := ⟨_, rfl⟩
      have hst := HSTEP.out
      rw [show decide (nm ∈ cats5) = decide (0 ≤ pa) from by rw [← hpa]; exact decide_eq_decide.2 place_mem.symm, show decide (nm ∈ seen) = decide (0 ≤ pb) from by rw [← hpb]; exact decide_eq_decide.2 place_mem.symm, hpc] at hst
      rw [hpa] at hp1
      rw [hpb] at hp2
      rw [hpc] at hrl
      have HS2 := Lib.hid hst
      have HP1 := Lib.hid hp1
      have HP2 := Lib.hid hp2
      have HRL := Lib.hid hrl
      clear hst hp1 hp2 hrl hpa hpb hpc HSTEP HW
      go_wp2_with fail
      refine HP1.out.mono ?_
      rintro e w' ⟨rfl, rfl⟩
      go_wp2_with fail
      refine HP2.out.mono ?_
      rintro e w' ⟨rfl, rfl⟩
      go_wp2_with fail
      refine HRL.out.mono ?_
      rintro e w2 ⟨rfl, hb2⟩
      have hbb2 := hbb.trans (hb2.mono hbb.size)
      by_cases h1 : pa < 0
      · have g1 : decide (pa < 0) = true := decide_eq_true h1
        have HF := Lib.hid (show r = false by rw [HS2.out, show decide (0 ≤ pa) = false by simp; omega]; rfl)
        clear h1
        go_wp2
        go_ret
        exact ⟨by rw [HF.out]; rfl, hbb2⟩
      · have g1 : decide (pa < 0) = false := decide_eq_false h1
        by_cases h2 : 0 ≤ pb
        · have g2 : decide (0 ≤ pb) = true := decide_eq_true h2
          have HF := Lib.hid (show r = false by rw [HS2.out, g2]; simp)
          clear h1 h2
          go_wp2
          go_ret
          exact ⟨by rw [HF.out]; rfl, hbb2⟩
        · have g2 : decide (0 ≤ pb) = false := decide_eq_false h2
          cases pc
          · have HF := Lib.hid (show r = false by rw [HS2.out]; simp)
            clear h1 h2
            go_wp2
            go_ret
            exact ⟨by rw [HF.out]; rfl, hbb2⟩
          · have HF := Lib.hid (show ruledGo (rs.drop (k + 1)) (seen ++ [nm]) = r by rw [HS2.out, g2, show decide (0 ≤ pa) = true by simp; omega]; simp)
            have HO2 := Lib.hid (HO.out.kept (row := none) ⟨hb2.os, hb2.tape, hb2.output, hb2.size, fun i hi _ => hb2.block i hi⟩ (by cases (Value.slice sa seen.length sc).ownBlock <;> simp))
            clear h1 h2
            go_wp2_with (at_builtin; refine app_own elem_strs rfl _ _ rfl w1.heap.size _ seen.length (seen.map strv) rfl (HO2.out.alloc _) ⟨w2.heap.size, 0, none⟩ 1 1 [strv nm] rfl rfl ?k1 ?k2 ?k3 ?k4 ?_)
            case k1 => exact cells_one (cell_made _ _ _ _ _)
            case k2 =>
              intro u hu
              simp at hu
              subst hu
              rfl
            case k3 => omega
            case k4 => have := hb2.size; have := hb.size; simp; omega
            intro sv' w3 ho3 hg3
            go_wp2
            go_roundw
            case rel => exact ⟨k + 1, seen ++ [nm], by omega, by go_num, by simpa using ho3, ((hb.trans (hb2.mono hb.size)).alloc (Nat.le_trans hb.size hb2.size) _).grown hg3 (by have := hb.size; have := hb2.size; simp; omega) (fun q hq => (HO.out.lt q hq).1), by simp; omega, HF.out⟩
            case measure => simp [intOf]; omega
    · obtain rfl : k = rs.length := by omega
      have hgo := HG.out
      rw [List.drop_length, ruledGo] at hgo
      have HF := Lib.hid hgo
      clear hgo
      go_wp2
      go_ret
      exact ⟨by rw [HF.out]; rfl, hbb⟩
end Go.Proofs.YtkhdbolnhcfgkaaGreatDoor
