import Derived.Test.YtkhdbolnhcfgkaaGreatDoorJ12
import Derived.IntWalk
import Derived.Laws.AppendOwnNone

/- The law's helpers: size, rules, lastPlace. -/
namespace Go.Proofs.YtkhdbolnhcfgkaaGreatDoor
open Go Go.RowKit
set_option maxRecDepth 10000

/-- the sizes of texts, summed -/
def sumL (ws : List Wd) : Nat := (ws.map List.length).sum

theorem sum_take (ws : List Wd) (k : Nat) (hk : k < ws.length) : sumL (ws.take (k + 1)) = sumL (ws.take k) + ws[k].length := by
  unfold sumL
  rw [List.take_succ_eq_append_getElem hk, List.map_append, List.sum_append]
  simp only [List.map_cons, List.map_nil, List.sum_cons, List.sum_nil, Nat.add_zero]

theorem sum_mem (ws : List Wd) : ∀ m ∈ ws, m.length ≤ sumL ws := by
  induction ws with
  | nil => intro m h; cases h
  | cons a t ih =>
    intro m h
    have e : sumL (a :: t) = a.length + sumL t := by simp [sumL]
    rcases List.mem_cons.1 h with rfl | h
    · omega
    · have := ih m h; omega

/-- size: if it's no more than 2^16 so is all that the list holds -/
def SizePost (ws : List Wd) (w : World) (e : Ending) (w' : World) : Prop := w = w' ∧ ∃ n : Nat, e = .returned (.int .i64 n) ∧ n ≤ 281474976710656 ∧ (n ≤ 65536 → ws.length ≤ 65536 ∧ ∀ m ∈ ws, m.length ≤ 65536)

set_option maxHeartbeats 2000000 in
theorem size_any' (v : Value) (ws : List Wd) (w : World) (hN : StrsAt w v ws) (hwl : ws.length ≤ 140737488355328) (hwz : ∀ m ∈ ws, m.length ≤ 140737488355328) :
    Calls Tryz.prog 5 #[v] w (SizePost ws w) := by
  obtain ⟨na, ncap, rfl, hn1, hn2, hn3, hnc⟩ := hN
  have HNC := Lib.hid hnc
  have HWZ := Lib.hid hwz
  clear hnc hwz hn1 hn2 hn3
  go_enter Tryz.func5, Tryz.ntmps5
  go_wp2
  go_loop [3, 4] (fun n i => ∃ k : Nat, k ≤ ws.length ∧ i = .int .i64 k ∧ ∃ t : Nat, n = .int .i64 t ∧ t = ws.length + sumL (ws.take k) ∧ (k = 0 ∨ t ≤ 65536)) (fun _ i => ws.length - (intOf i).toNat)
  case atStart => exact ⟨0, Nat.zero_le _, rfl, ws.length, rfl, by simp [sumL], .inl rfl⟩
  case round =>
    obtain ⟨k, hk, rfl, t, rfl, ht, hlow⟩ := hrel
    have HT := Lib.hid ht
    clear ht
    by_cases hlt : k < ws.length
    · obtain ⟨g, rfl, hc⟩ := HNC.out k hlt
      have hz := HWZ.out _ (List.getElem_mem hlt)
      have HS := Lib.hid (sum_take ws k hlt)
      obtain ⟨m, hm⟩ : ∃ m, ws[k] = m := ⟨_, rfl⟩
      rw [hm] at hc hz
      have HMM := Lib.hid hm
      have htl : t ≤ 140737488355328 := by
        rcases hlow with h | h
        · have h2 := HT.out
          subst h
          rw [List.take_zero] at h2
          have : sumL [] = 0 := rfl
          omega
        · omega
      have hsz : (⟨m.toArray⟩ : ByteArray).size = m.length := size_mk m
      have hwr : IntKind.i64.wrap ((t : Int) + (m.length : Int)) = ((t + m.length : Nat) : Int) := by simp [IntKind.wrap, IntKind.signed, IntKind.bits]; omega
      have HLE := Lib.hid hlow
      clear hm hlow
      by_cases hbig : 65536 < t + m.length
      · have g1 : decide ((65536 : Int) < ((t + m.length : Nat) : Int)) = true := by simp; omega
        have g2 : decide ((65536 : Int) < (t : Int) + (m.length : Int)) = true := by simp; omega
        go_wp2
        go_ret
        exact ⟨rfl, t + m.length, by first | rfl | (simp [go_sem, hsz, hwr]; done), by omega, fun q => by omega⟩
      · have g1 : decide ((65536 : Int) < ((t + m.length : Nat) : Int)) = false := by simp; omega
        have g2 : decide ((65536 : Int) < (t : Int) + (m.length : Int)) = false := by simp; omega
        go_wp2
        go_round
        case rel => exact ⟨k + 1, by omega, by go_num, t + m.length, by first | rfl | (simp [hsz, hwr]; done), by have a := HT.out; have b := HS.out; have c := HMM.out; rw [b, c]; omega, .inr (by omega)⟩
        case measure => simp [intOf]; omega
    · obtain rfl : k = ws.length := by omega
      have ht := HT.out
      rw [List.take_length] at ht
      have htl : t ≤ 140737488355328 := by
        rcases hlow with h | h
        · have h2 : ws = [] := List.eq_nil_of_length_eq_zero h
          rw [h2] at ht
          have h3 : sumL [] = 0 := rfl
          rw [h3] at ht
          have h4 : ([] : List Wd).length = 0 := rfl
          omega
        · omega
      have HL := Lib.hid hlow
      clear ht hlow
      go_wp2
      go_ret
      exact ⟨rfl, t, rfl, by omega, fun q => ⟨by have := HT.out; omega, fun m hm => by have h1 := HT.out; rw [List.take_length] at h1; have := sum_mem ws m hm; omega⟩⟩

set_option maxHeartbeats 2000000 in
theorem lastPlace_any (v : Value) (ws : List Wd) (m : ByteArray) (w : World) (hN : StrsAt w v ws) (hwl : ws.length ≤ 1000000) :
    Calls Tryz.prog 16 #[v, .string m] w fun e w' => e = .returned (.int .i64 (lastN ws m.data.toList)) ∧ w = w' := by
  obtain ⟨na, ncap, rfl, hn1, hn2, hn3, hnc⟩ := hN
  have HNC := Lib.hid hnc
  clear hnc hn1 hn2 hn3
  obtain ⟨R, hR⟩ : ∃ R, lastN ws m.data.toList = R := ⟨_, rfl⟩
  rw [hR]
  have HR := Lib.hid hR
  clear hR
  go_enter Tryz.func16, Tryz.ntmps16
  go_wp2
  go_loop [5, 6] (fun n i => ∃ k : Nat, k ≤ ws.length ∧ i = .int .i64 k ∧ n = .int .i64 (lastN (ws.take k) m.data.toList)) (fun _ i => ws.length - (intOf i).toNat)
  case atStart => exact ⟨0, Nat.zero_le _, rfl, rfl⟩
  case round =>
    obtain ⟨k, hk, rfl, hn⟩ := hrel
    obtain ⟨j, hj⟩ : ∃ j, lastN (ws.take k) m.data.toList = j := ⟨_, rfl⟩
    rw [hj] at hn
    subst hn
    have HJ := Lib.hid hj
    clear hj
    by_cases hlt : k < ws.length
    · obtain ⟨g, rfl, hc⟩ := HNC.out k hlt
      have HL := Lib.hid (last_take ws k hlt m.data.toList)
      obtain ⟨x, hx⟩ : ∃ x, ws[k] = x := ⟨_, rfl⟩
      rw [hx] at hc
      have HX := Lib.hid hx
      clear hx
      by_cases hq : x = m.data.toList
      · have hq' : (x == m.toList) = true := by rw [toList_at, hq]; simp
        have HF := Lib.hid (show lastN (ws.take (k + 1)) m.data.toList = k + 1 by rw [HL.out, HX.out, if_pos hq])
        clear hq
        go_wp2
        go_round
        case rel => exact ⟨k + 1, by omega, by go_num, by rw [HF.out]; simp⟩
        case measure => simp [intOf]; omega
      · have hq' : (x == m.toList) = false := by rw [toList_at]; simpa using hq
        have HF := Lib.hid (show lastN (ws.take (k + 1)) m.data.toList = j by rw [HL.out, HX.out, if_neg hq, HJ.out])
        clear hq
        go_wp2
        go_round
        case rel => exact ⟨k + 1, by omega, by go_num, by rw [HF.out]⟩
        case measure => simp [intOf]; omega
    · obtain rfl : k = ws.length := by omega
      have hj := HJ.out
      rw [List.take_length, HR.out] at hj
      have HF := Lib.hid hj
      clear hj
      go_wp2
      go_ret
      exact ⟨by rw [HF.out]; rfl, rfl⟩

/-- a list of texts as rules -/
def rulesL : List Wd → List Rul
  | a :: b :: t => (a, b) :: rulesL t
  | _ => []

/-- rules as cells -/
def rcells (rs : List Rul) : List Value := rs.flatMap fun r => [strv r.1, strv r.2]

theorem rcells_length (rs : List Rul) : (rcells rs).length = rs.length * 2 := by
  induction rs with
  | nil => rfl
  | cons r t ih => simp [rcells] at ih ⊢; omega

theorem rcells_get (rs : List Rul) (j : Nat) (h : j < rs.length) : (rcells rs)[j * 2]? = some (strv rs[j].1) ∧ (rcells rs)[j * 2 + 1]? = some (strv rs[j].2) := by
  induction rs generalizing j with
  | nil => cases h
  | cons r t ih =>
    have e : rcells (r :: t) = strv r.1 :: strv r.2 :: rcells t := rfl
    rw [e]
    cases j with
    | zero => exact ⟨rfl, rfl⟩
    | succ j =>
      have := ih j (by simp at h; omega)
      rw [show (j + 1) * 2 = j * 2 + 1 + 1 by omega]
      simpa using this

theorem rulesL_length (ws : List Wd) : (rulesL ws).length = ws.length / 2 := by
  match ws with
  | [] => rfl
  | [x] => simp [rulesL]
  | a :: b :: t => have := rulesL_length t; simp [rulesL, this]; omega

theorem rulesL_mem : ∀ (ws : List Wd) (n : Nat), (∀ m ∈ ws, m.length ≤ n) → ∀ q ∈ rulesL ws, q.1.length ≤ n ∧ q.2.length ≤ n
  | [], _, _, q, hq => by cases hq
  | [_], _, _, q, hq => by cases hq
  | a :: b :: t, n, h, q, hq => by
    rcases List.mem_cons.1 hq with rfl | hq
    · exact ⟨h _ (List.mem_cons_self ..), h _ (List.mem_cons_of_mem _ (List.mem_cons_self ..))⟩
    · exact rulesL_mem t n (fun m hm => h m (List.mem_cons_of_mem _ (List.mem_cons_of_mem _ hm))) q hq

theorem rulesL_take (ws : List Wd) (k : Nat) (h : 2 * k + 1 < ws.length) : rulesL (ws.take (2 * (k + 1))) = rulesL (ws.take (2 * k)) ++ [(ws[2 * k], ws[2 * k + 1])] := by
  induction k generalizing ws with
  | zero =>
    match ws, h with
    | a :: b :: t, _ => rfl
  | succ k ih =>
    match ws, h with
    | a :: b :: t, h =>
      have := ih t (by simp at h; omega)
      have h1 : (a :: b :: t).take (2 * (k + 1 + 1)) = a :: b :: t.take (2 * (k + 1)) := by rw [show 2 * (k + 1 + 1) = 2 * (k + 1) + 1 + 1 by omega]; rfl
      have h2 : (a :: b :: t).take (2 * (k + 1)) = a :: b :: t.take (2 * k) := by rw [show 2 * (k + 1) = 2 * k + 1 + 1 by omega]; rfl
      have h3 : ∀ (n i : Nat) (hn : n = i + 1 + 1) (h' : n < (a :: b :: t).length) (h'' : i < t.length), (a :: b :: t)[n] = t[i] := by
        intro n i hn h' h''
        subst hn
        rfl
      rw [h1, h2, rulesL, rulesL, this, h3 _ (2 * k) (by omega) _ (by simp at h; omega), h3 _ (2 * k + 1) (by omega) _ (by simp at h; omega)]
      rfl

theorem rulesL_end (ws : List Wd) (k : Nat) (h : ¬ 2 * k + 1 < ws.length) : rulesL (ws.take (2 * k)) = rulesL ws := by
  induction k generalizing ws with
  | zero =>
    match ws, h with
    | [], _ => rfl
    | [_], _ => rfl
    | a :: b :: t, h => simp at h
  | succ k ih =>
    match ws, h with
    | [], _ => rfl
    | [_], _ => rfl
    | a :: b :: t, h =>
      have := ih t (by simp at h; omega)
      rw [show 2 * (k + 1) = 2 * k + 1 + 1 by omega]
      simp only [List.take_succ_cons, rulesL]
      rw [this]

theorem elem_rule : Elem Tryz.prog 24 32 (.agg #[.string ⟨#[]⟩, .string ⟨#[]⟩]) 2 32 :=
  ⟨Tryz.underlying24, info_parts (by kernel_rfl), rfl, by decide, by decide⟩

/-- rules of the call's own lie in memory -/
theorem RulesAt.of_own {w : World} {base : Nat} {v : Value} {rs : List Rul} (h : w.ownsRow base 32 2 v rs.length (rcells rs)) : RulesAt w v rs := by
  rcases Nat.eq_zero_or_pos rs.length with h0 | h0
  · obtain ⟨a, cap, hv⟩ := own_slice h
    exact ⟨a, cap, hv, fun j hj => by omega⟩
  · obtain ⟨g, cap, hv, _, _, hc⟩ := own_some h h0
    refine ⟨_, _, hv, fun j hj => ⟨g, 0, rfl, ?_, ?_⟩⟩
    · rw [Nat.zero_add, hc _ (by omega)]; exact (rcells_get rs j hj).1
    · rw [Nat.zero_add, hc _ (by omega)]; exact (rcells_get rs j hj).2

set_option maxHeartbeats 4000000 in
theorem rules_any (v : Value) (ws : List Wd) (w : World) (hN : StrsAt w v ws) (hwl : ws.length ≤ 1000000) :
    Calls Tryz.prog 6 #[v] w fun e w' => (∃ rv, e = .returned rv ∧ w'.ownsRow w.heap.size 32 2 rv (rulesL ws).length (rcells (rulesL ws))) ∧ Below w.heap.size w w' := by
  obtain ⟨na, ncap, rfl, hn1, hn2, hn3, hnc⟩ := hN
  have HNC := Lib.hid hnc
  clear hnc hn1 hn2 hn3
  go_enter Tryz.func6, Tryz.ntmps6
  go_wp2
  go_loopw [3, 4] (fun sv i wr => ∃ k : Nat, 2 * k ≤ ws.length ∧ i = .int .i64 ((2 * k : Nat) : Int) ∧ wr.ownsRow w.heap.size 32 2 sv (rulesL (ws.take (2 * k))).length (rcells (rulesL (ws.take (2 * k)))) ∧ Below w.heap.size w wr) (fun _ i _ => ws.length - (intOf i).toNat)
  case atStart => exact ⟨0, Nat.zero_le _, rfl, World.ownsRow_nil _ _ _ _, Below.refl _ _⟩
  case round =>
    obtain ⟨k, hk, rfl, hown, hbb⟩ := hrel
    obtain ⟨i, hi⟩ : ∃ i, 2 * k = i := ⟨_, rfl⟩
    rw [hi] at hown hk ⊢
    have HO := Lib.hid hown
    obtain ⟨sa, sc, rfl⟩ := own_slice hown
    clear hown
    have HI := Lib.hid hi
    by_cases hlt : 2 * k + 1 < ws.length
    · obtain ⟨g, rfl, hc0⟩ := HNC.out (2 * k) (by omega)
      obtain ⟨g', hg', hc1⟩ := HNC.out (2 * k + 1) hlt
      cases hg'
      have d0 := (hbb.cell (World.block_lt_of_cell? _ _ hc0)).trans hc0
      have d1 := (hbb.cell (World.block_lt_of_cell? _ _ hc1)).trans hc1
      have HT := Lib.hid (rulesL_take ws k hlt)
      obtain ⟨x, hx⟩ : ∃ x, ws[2 * k] = x := ⟨_, rfl⟩
      obtain ⟨y, hy⟩ : ∃ y, ws[2 * k + 1] = y := ⟨_, rfl⟩
      rw [hx] at d0
      rw [hy] at d1
      have HX := Lib.hid hx
      have HY := Lib.hid hy
      have hlen : (rulesL (ws.take i)).length = k := by rw [rulesL_length, List.length_take, Nat.min_eq_left (by omega)]; omega
      have HLEN := Lib.hid hlen
      rw [hi] at d0 d1
      have hi1 : i + 1 < ws.length := by omega
      clear hx hy hlen hc0 hc1 hi
      have hi0 : i < ws.length := by omega
      have hi2 : (i : Int) < (ws.length : Int) := by omega
      have hi3 : (i : Int) + 1 < (ws.length : Int) := by omega
      have hi4 : ((i : Int) + 1).toNat = i + 1 := by omega
      have hi5 : (0 : Int) ≤ (i : Int) + 1 := by omega
      have hi6 : IntKind.i64.wrap ((i : Int) + 1) = (i : Int) + 1 := by simp [IntKind.wrap, IntKind.signed, IntKind.bits]; omega
      rw [show g.add (i + 1) = ⟨g.block, g.off + (i + 1), none⟩ from by simp [Addr.add]] at d1
      have hS0 : wr.drew.cell? (g.add i) = some (strv x) ∧ wr.drew.cell? ⟨g.block, g.off + (i + 1), none⟩ = some (strv y) := ⟨d0, d1⟩
      go_wp2_with fail
      refine wp_region_takes (fun W' : World => W'.cell? (g.add i) = some (strv x) ∧ W'.cell? ⟨g.block, g.off + (i + 1), none⟩ = some (strv y)) [0, 1, 2, 3, 4, 5, 6, 7, 8, 9, 10] 3 (by intro _ _ d _ _ h; cases d <;> exact h) (by kernel_rfl) (by kernel_rfl) hS0 ?_
      (iterate 11 (first | (refine takes_yes (v := ?_) rfl (by rfl) ?_ ?_; rotate_left; (focus ((intro w' hS'; (try dsimp only at hS'); go_simp; try (with_reducible rfl)); done)); (try simp only [Act.put, List.setIfInBounds_toArray, List.set_cons_zero, List.set_cons_succ])) | (refine takes_no rfl (by rfl) ?_; (try simp only [Act.put, List.setIfInBounds_toArray, List.set_cons_zero, List.set_cons_succ]))))
      refine takes_nil ?_
      refine wpAnyH_only 11 (by kernel_rfl) rfl (fun K hK => ?_)
      go_simp
      have F : ∃ W, W = (wr.alloc (.cells #[strv x, strv y] 32)).drew ∧ Below wr.heap.size wr W ∧ W.heap.size = wr.heap.size + 1 ∧ W.cell? ⟨wr.heap.size, 0, none⟩ = some (strv x) ∧ W.cell? ⟨wr.heap.size, 1, none⟩ = some (strv y) ∧
          W.cell? (g.add i) = some (strv x) ∧ W.cell? ⟨g.block, g.off + (i + 1), none⟩ = some (strv y) ∧ W.ownsRow w.heap.size 32 2 (.slice sa (rulesL (ws.take i)).length sc) (rulesL (ws.take i)).length (rcells (rulesL (ws.take i))) :=
        ⟨_, rfl, ((Below.refl _ _).alloc (Nat.le_refl _) _).drew, by simp, (cell_made wr _ _ _ _ :), (cell_made wr _ _ _ _ :), (World.cell?_alloc_lt _ _ _ (World.block_lt_of_cell? _ _ d0)).trans d0, (World.cell?_alloc_lt _ _ _ (World.block_lt_of_cell? _ _ d1)).trans d1, World.ownsRow.drew (HO.out.alloc _)⟩
      obtain ⟨W, hW, hbW, hsW, q0, q1, e0, e1, ho⟩ := F
      rw [← hW]
      clear hW
      refine hK.out _ _ ⟨e0, e1⟩ (fun _ => ?_)
      clear hK K
      refine wpAnyH_only 12 (by kernel_rfl) rfl (fun K hK => ?_)
      rw [if_pos (by rfl)]
      obtain ⟨inf, hinf, hz, h2, h3⟩ := elem_rule.info
      refine wp_append_own W _ _ 24 rfl w.heap.size 32 inf _ 2 32 elem_rule.under hinf hz h2 h3 elem_rule.zsize elem_rule.pos _ _ _ rfl ho ⟨wr.heap.size, 0, none⟩ 1 1 [strv x, strv y] rfl rfl ?_ ?_ (by unfold maxLen; have := HLEN.out; omega) (by have := HLEN.out; omega) (by have := hbb.size; omega) ?_
      · intro j u hu
        rw [addr_add0]
        match j, hu with
        | 0, hu => simp at hu; subst hu; exact q0
        | 1, hu => simp at hu; subst hu; exact q1
      · intro u hu
        simp at hu
        rcases hu with rfl | rfl <;> rfl
      · intro v5 w5 ho5 hg5 _
        have hrow : ∀ q, (Value.slice sa (rulesL (ws.take i)).length sc).ownBlock = some q → w.heap.size ≤ q := fun q hq => (HO.out.lt q hq).1
        have hb5 : Below w.heap.size w w5 := (hbb.trans (hbW.mono hbb.size)).grown hg5 (by have := hbb.size; omega) hrow
        have hgl : g.block < w.heap.size := by
          obtain ⟨g', hg', hc'⟩ := HNC.out i (by omega)
          cases hg'
          have h := World.block_lt_of_cell? _ _ hc'
          rwa [addr_add] at h
        have hne : some g.block ≠ (Value.slice sa (rulesL (ws.take i)).length sc).ownBlock := fun e => by have := hrow _ e.symm; omega
        have p0 := hg5.cell e0 (by rw [addr_add]; exact hne)
        have p1 := hg5.cell e1 hne
        have HF := Lib.hid (show rulesL (ws.take (2 * (k + 1))) = rulesL (ws.take i) ++ [(x, y)] by rw [HT.out, HX.out, HY.out, HI.out])
        have hrc : rcells (rulesL (ws.take i) ++ [(x, y)]) = rcells (rulesL (ws.take i)) ++ [strv x, strv y] := by simp [rcells]
        have HO5 := Lib.hid (show w5.ownsRow w.heap.size 32 2 v5 (rulesL (ws.take (2 * (k + 1)))).length (rcells (rulesL (ws.take (2 * (k + 1))))) by rw [HF.out, hrc]; simpa using ho5)
        refine hK.out _ _ ⟨p0, p1⟩ (fun _ => ?_)
        clear hK K hrc ho5 hg5 hrow
        refine wpAnyH_more [13] 0 rfl (by intro _ _ d _ _ h; cases d <;> exact h) (by kernel_rfl) (by kernel_rfl) ⟨p0, p1⟩ ?_
        (iterate 1 (first | (refine takes_yes (v := ?_) rfl (by rfl) ?_ ?_; rotate_left; (focus ((intro w' hS'; (try dsimp only at hS'); go_simp; try (with_reducible rfl)); done)); (try simp only [Act.put, List.setIfInBounds_toArray, List.set_cons_zero, List.set_cons_succ])) | (refine takes_no rfl (by rfl) ?_; (try simp only [Act.put, List.setIfInBounds_toArray, List.set_cons_zero, List.set_cons_succ]))))
        refine takes_nil ?_
        refine wpAnyH_done (by kernel_rfl) ?_ _
        have hi7 : IntKind.i64.wrap ((i : Int) + 2) = (i : Int) + 2 := by simp [IntKind.wrap, IntKind.signed, IntKind.bits]; omega
        go_wp2
        go_roundw
        case rel => exact ⟨k + 1, by have := HI.out; omega, by have := HI.out; go_num, HO5.out, hb5⟩
        case measure => simp [intOf]; omega
    · have hlt' : ¬ i + 1 < ws.length := by omega
      have HT := Lib.hid (rulesL_end ws k hlt)
      have hi7 : IntKind.i64.wrap ((i : Int) + 1) = (i : Int) + 1 := by simp [IntKind.wrap, IntKind.signed, IntKind.bits]; omega
      have he : rulesL (ws.take i) = rulesL ws := by rw [← HI.out, HT.out]
      have ho2 : wr.ownsRow w.heap.size 32 2 (.slice sa (rulesL (ws.take i)).length sc) (rulesL ws).length (rcells (rulesL ws)) := by
        have h := HO.out
        rw [he] at h ⊢
        exact h
      have HO2 := Lib.hid ho2
      clear he ho2
      clear hi hlt
      go_wp2
      go_ret
      exact ⟨⟨_, rfl, HO2.out⟩, hbb⟩
end Go.Proofs.YtkhdbolnhcfgkaaGreatDoor

/- The law Categories: it returns true. -/
namespace Go.Proofs.YtkhdbolnhcfgkaaGreatDoor
open Go Go.RowKit
set_option maxRecDepth 10000

/-- rules in memory, at whatever address, or none at all -/
def RulesIn (w : World) (v : Value) (rs : List Rul) : Prop := RulesAt w v rs ∧ ((v = .slice none 0 0 ∧ rs = []) ∨ ∃ g o cap, v = .slice (some ⟨g, o, none⟩) rs.length cap)

theorem RulesIn.below {w w' : World} {v : Value} {rs : List Rul} (h : RulesIn w v rs) (hb : Below w.heap.size w w') : RulesIn w' v rs := ⟨h.1.below hb, h.2⟩

theorem RulesIn.of_own {w : World} {base : Nat} {v : Value} {rs : List Rul} (h : w.ownsRow base 32 2 v rs.length (rcells rs)) : RulesIn w v rs := by
  refine ⟨RulesAt.of_own h, ?_⟩
  rcases h.2 with ⟨hv, h0⟩ | ⟨g, cap, cur, hv, _⟩
  · exact .inl ⟨hv, List.eq_nil_of_length_eq_zero h0⟩
  · exact .inr ⟨g, 0, cap, hv⟩

theorem rcells_at {w : World} {g o cap : Nat} {rs : List Rul} (h : RulesAt w (.slice (some ⟨g, o, none⟩) rs.length cap) rs) : ∀ j u, (rcells rs)[j]? = some u → w.cell? ((⟨g, o, none⟩ : Addr).add j) = some u := by
  obtain ⟨a, c, hv, hc⟩ := h
  cases hv
  intro j u hu
  have hj : j < rs.length * 2 := by rw [← rcells_length]; exact (List.getElem?_eq_some_iff.1 hu).1
  have hk : j / 2 < rs.length := by omega
  obtain ⟨g', o', e, c0, c1⟩ := hc (j / 2) hk
  cases e
  obtain ⟨r0, r1⟩ := rcells_get rs (j / 2) hk
  have hadd : (⟨g, o, none⟩ : Addr).add j = ⟨g, o + j, none⟩ := by
    unfold Addr.add
    split
    · next h => subst h; rfl
    · rfl
  rw [hadd]
  rcases Nat.mod_two_eq_zero_or_one j with h | h
  · have e : j / 2 * 2 = j := by omega
    rw [e] at c0 r0
    rw [c0, ← r0, hu]
  · have e : j / 2 * 2 + 1 = j := by omega
    rw [Nat.add_assoc, e] at c1
    rw [e] at r1
    rw [c1, ← r1, hu]

theorem rcells_one (rs : List Rul) : ∀ u ∈ rcells rs, u.oneCell' = true := by
  intro u hu
  obtain ⟨r, _, hr⟩ := List.mem_flatMap.1 hu
  simp at hr
  rcases hr with rfl | rfl <;> rfl

/-- a copy of a list of rules -/
theorem app_copy {w : World} {ops : Array Oper} {rest : List Oper} {o : Oper} {a : Act} {Q : Exit → Act → World → Prop} (hgd : o.guard = none) (s x : Operand)
    (ho : o.op = .call { callee := .builtin .append, args := #[s, x], argTypes := #[24, 24] }) (hs : a.eval s = .slice none 0 0) {v : Value} (hx : a.eval x = v) {rs : List Rul} (hv : RulesIn w v rs) (hl : rs.length ≤ 1000000)
    (h : ∀ v' w', w'.ownsRow w.heap.size 32 2 v' rs.length (rcells rs) → Below w.heap.size w w' → wpList Tryz.prog ops Q rest (a.put o.dst v') w') : wpList Tryz.prog ops Q (o :: rest) a w := by
  have hi : ∃ i, Tryz.prog.info? 32 = some i := by
    cases h : Tryz.prog.info? 32 with
    | some i => exact ⟨i, rfl⟩
    | none => exact absurd (show (Tryz.prog.info? 32).isSome = true by kernel_rfl) (by rw [h]; decide)
  obtain ⟨i, hi⟩ := hi
  rcases hv.2 with ⟨rfl, rfl⟩ | ⟨g, of, cap, rfl⟩
  · exact wpList_append_own_none hgd s x 24 ho 0 32 i 2 Tryz.underlying24 hi (.slice none 0 0) 0 [] hs (World.ownsRow_nil _ _ _ _) hx (h _ _ (World.ownsRow_nil _ _ _ _) (Below.refl _ _))
  · refine app_own elem_rule hgd s x ho w.heap.size _ 0 [] hs (World.ownsRow_nil _ _ _ _) ⟨g, of, none⟩ rs.length cap (rcells rs) hx (rcells_length rs) (rcells_at hv.1) (rcells_one rs) (by omega) (Nat.le_refl _) (fun v' w' h1 h2 => ?_)
    refine h v' w' (by simpa using h1) ?_
    exact (Below.refl _ _).grown h2 (Nat.le_refl _) (fun q hq => by cases hq)

/-- what the law's second half compares -/
theorem chosen_eq (t : Wd) (ws : List Wd) : chN 0 t (lastN ws) = (if lastN ws t = 0 then lastN ws othW else lastN ws t) ∧ chC 0 t (lastN ws) = (if (if lastN ws t = 0 then lastN ws othW else lastN ws t) = 0 then 16 else 0) := by
  unfold chN chC
  rw [if_pos rfl, if_pos rfl]
  by_cases h : lastN ws t = 0
  · rw [if_neg (by omega), if_pos h]
    refine ⟨rfl, ?_⟩
    by_cases h2 : lastN ws othW = 0
    · rw [if_neg (by omega), if_pos h2]
    · rw [if_pos (.inr (by omega)), if_neg h2]
  · rw [if_pos (by omega), if_neg h, if_pos (.inl (by omega)), if_neg h]
    exact ⟨rfl, rfl⟩

set_option maxHeartbeats 8000000 in
theorem category_law (rs : List Rul) (v : Value) (s : ByteArray) (ov : Value) (ws : List Wd) (w : World) (hv : RulesIn w v rs) (hl : rs.length ≤ 1000000) (hz : ∀ q ∈ rs, q.1.length ≤ 1000000 ∧ q.2.length ≤ 1000000) (hs : s.size ≤ 1000000)
    (ho : StrsAt w ov ws) (hwl : ws.length ≤ 100000) (hwz : ∀ m ∈ ws, m.length ≤ 1000000) (hP : PlurW w) :
    Calls Tryz.prog 7 #[v, .string s, ov] w fun e w' => e = .returned (.bool true) ∧ Below w.heap.size w w' := by
  have HV := Lib.hid hv
  have HP := Lib.hid hP
  have HO := Lib.hid ho
  have HZ := Lib.hid hz
  have HWZ := Lib.hid hwz
  obtain ⟨oa, on, oc, rfl⟩ : ∃ a n c, ov = .slice a n c := by obtain ⟨a, c, rfl, _⟩ := ho; exact ⟨_, _, _, rfl⟩
  obtain ⟨va, vn, vc, rfl⟩ : ∃ a n c, v = .slice a n c := by obtain ⟨⟨a, c, rfl, _⟩, _⟩ := hv; exact ⟨_, _, _, rfl⟩
  have HCAT := Lib.hid (fun W (h : Below w.heap.size w W) => pcategory_any rs (.slice va vn vc) s W (HV.out.1.below h) hl hz hs (HP.out.below h))
  have HCH := Lib.hid (fun W (h : Below w.heap.size w W) => pchoose_any rs (.slice va vn vc) s (.slice oa on oc) ws W (HV.out.1.below h) hl hz hs (HP.out.below h) (HO.out.below h) hwl hwz)
  obtain ⟨T, hT⟩ : ∃ T, catT rs s.data.toList = T := ⟨_, rfl⟩
  obtain ⟨C, hC⟩ : ∃ C, catC rs s.data.toList = C := ⟨_, rfl⟩
  rw [hT, hC] at HCAT HCH
  have HT := Lib.hid hT
  have HC := Lib.hid hC
  clear hv ho hz hwz hP hT hC
  go_enter Tryz.func7, Tryz.ntmps7
  go_wp2_with (at_builtin; refine app_copy rfl _ _ rfl rfl rfl HV.out hl ?_)
  intro mv w1 hm hb1
  have HM := Lib.hid hm
  obtain ⟨ma, mc, rfl⟩ := own_slice hm
  clear hm
  go_wp2_with fail
  refine (HCAT.out _ hb1).mono ?_
  rintro e w2 ⟨rfl, hb2⟩
  have hb02 := hb1.trans (hb2.mono hb1.size)
  have HM2 := Lib.hid (own_below HM.out hb2)
  clear hb2 HM hb1
  go_wp2_with fail
  refine (ruled_real _ rs w2 (RulesAt.of_own HM2.out) hl (fun r hr => (HZ.out r hr).2)).mono ?_
  rintro e w3 ⟨rfl, hb3⟩
  have hb03 := hb02.trans (hb3.mono hb02.size)
  have HM3 := Lib.hid (own_below HM2.out hb3)
  clear hb3 HM2 hb02
  go_wp2_with fail
  refine (numOf_any s w3 hs).mono ?_
  rintro e w4 ⟨rfl, hb4⟩
  have hb04 := hb03.trans (hb4.mono hb03.size)
  have HM4 := Lib.hid (own_below HM3.out hb4)
  clear hb4 HM3 hb03
  obtain ⟨rl, hrl⟩ : ∃ b, ruledL rs = b := ⟨_, rfl⟩
  obtain ⟨nl, hnl⟩ : ∃ b, isNumL s.data.toList = b := ⟨_, rfl⟩
  rw [hrl, hnl]
  cases rl
  · have hT0 : T = [] := by rw [← HT.out]; unfold catT; rw [hrl]; rfl
    have hC0 : C = 9 := by rw [← HC.out]; unfold catC; rw [hrl]; rfl
    have e1 : chN 9 [] (lastN ws) = 0 := rfl
    have e2 : chC 9 [] (lastN ws) = 9 := rfl
    rw [hT0, hC0, e1, e2] at HCH
    rw [hT0, hC0]
    clear HT HC hT0 hC0 e1 e2 hrl hnl
    go_wp2_with fail
    refine calls_gen ?_
    intro W hW
    have hbW : Below w.heap.size w W := by rw [hW]; exact hb04.alloc hb04.size _
    clear hW
    refine (HCH.out W hbW).mono ?_
    rintro e w5 ⟨rfl, hb5⟩
    have hb05 := hbW.trans (hb5.mono hbW.size)
    clear hb5 hbW hb04 HCH
    go_wp2
    go_ret
    exact ⟨rfl, hb05⟩
  · cases nl
    · have hT0 : T = [] := by rw [← HT.out]; unfold catT; rw [hrl, hnl]; rfl
      have hC0 : C = 10 := by rw [← HC.out]; unfold catC; rw [hrl, hnl]; rfl
      have e1 : chN 10 [] (lastN ws) = 0 := rfl
      have e2 : chC 10 [] (lastN ws) = 10 := rfl
      rw [hT0, hC0, e1, e2] at HCH
      rw [hT0, hC0]
      clear HT HC hT0 hC0 e1 e2 hrl hnl
      go_wp2_with fail
      refine calls_gen ?_
      intro W hW
      have hbW : Below w.heap.size w W := by rw [hW]; exact hb04.alloc hb04.size _
      clear hW
      refine (HCH.out W hbW).mono ?_
      rintro e w5 ⟨rfl, hb5⟩
      have hb05 := hbW.trans (hb5.mono hbW.size)
      clear hb5 hbW hb04 HCH
      go_wp2
      go_ret
      exact ⟨rfl, hb05⟩
    · have hT0 : T = sortL rs (dgL s.data.toList) := by rw [← HT.out]; unfold catT; rw [hrl, hnl]; rfl
      have hC0 : C = 0 := by rw [← HC.out]; unfold catC; rw [hrl, hnl]; rfl
      rw [hC0, (chosen_eq T ws).1, (chosen_eq T ws).2] at HCH
      rw [hC0]
      obtain ⟨d1, d2, hwl1, h30⟩ := num_facts hnl
      have hsort := fun W (h : Below w4.heap.size w4 W) => sort_any (.slice ma rs.length mc) rs (negL s.data.toList) ⟨(wholeL s.data.toList).toArray⟩ ⟨(fracL s.data.toList).toArray⟩ W ((RulesAt.of_own HM4.out).below h) hl (fun r hr => (HZ.out r hr).2)
        (by rw [toList_mk]; exact d1) (by rw [toList_mk]; exact d2) (by rw [size_mk]; omega) (by rw [size_mk]; omega)
      rw [toList_mk, toList_mk, show sortL rs (wholeL s.data.toList, fracL s.data.toList) = T from hT0.symm] at hsort
      have HSORT := Lib.hid hsort
      clear HT HC hT0 hC0 hrl hnl d1 d2 hsort
      go_wp2_with fail
      refine calls_gen ?_
      intro W hW
      have hbW : Below w4.heap.size w4 W := by rw [hW]; exact (Below.refl _ _).alloc (Nat.le_refl _) _
      clear hW
      refine (HSORT.out W hbW).mono ?_
      rintro e w5 ⟨rfl, hb5⟩
      have hb05 := (hb04.trans (hbW.mono hb04.size)).trans (hb5.mono (Nat.le_trans hb04.size hbW.size))
      clear hbW hb5 HSORT hb04
      go_wp2_with fail
      refine (HCH.out _ hb05).mono ?_
      rintro e w6 ⟨rfl, hb6⟩
      have hb06 := hb05.trans (hb6.mono hb05.size)
      have hl1 := lastPlace_any _ ws ⟨T.toArray⟩ w6 (HO.out.below hb06) (by omega)
      have hl2 := lastPlace_any _ ws ⟨othW.toArray⟩ w6 (HO.out.below hb06) (by omega)
      rw [toList_mk] at hl1 hl2
      rw [show (⟨othW.toArray⟩ : ByteArray) = ⟨#[111, 116, 104, 101, 114]⟩ from rfl] at hl2
      have HL1 := Lib.hid hl1
      have HL2 := Lib.hid hl2
      obtain ⟨k, hk⟩ : ∃ k, lastN ws T = k := ⟨_, rfl⟩
      obtain ⟨j, hj⟩ : ∃ j, lastN ws othW = j := ⟨_, rfl⟩
      rw [hk, hj]
      rw [hk] at HL1
      rw [hj] at HL2
      clear hl1 hl2 hk hj hb6 hb05 HCH
      by_cases h0 : k = 0
      · subst h0
        simp only [if_true]
        by_cases h1 : j = 0
        · subst h1
          simp only [if_true]
          go_wp2_with fail
          refine HL1.out.mono ?_
          rintro e w' ⟨rfl, rfl⟩
          go_wp2_with fail
          refine HL2.out.mono ?_
          rintro e w' ⟨rfl, rfl⟩
          go_wp2
          go_ret
          exact ⟨rfl, hb06⟩
        · rw [if_neg h1]
          have g1 : ((j : Int) == 0) = false := by simp; omega
          go_wp2_with fail
          refine HL1.out.mono ?_
          rintro e w' ⟨rfl, rfl⟩
          go_wp2_with fail
          refine HL2.out.mono ?_
          rintro e w' ⟨rfl, rfl⟩
          go_wp2
          go_ret
          exact ⟨rfl, hb06⟩
      · simp only [if_neg h0]
        have g1 : ((k : Int) == 0) = false := by simp; omega
        go_wp2_with fail
        refine HL1.out.mono ?_
        rintro e w' ⟨rfl, rfl⟩
        go_wp2
        go_ret
        exact ⟨rfl, hb06⟩

set_option maxHeartbeats 4000000 in
theorem categories_law (cv : Value) (cs : List Wd) (s : ByteArray) (ov : Value) (ws : List Wd) (w : World) (hc : StrsAt w cv cs) (hcl : cs.length ≤ 140737488355328) (hcz : ∀ m ∈ cs, m.length ≤ 140737488355328)
    (ho : StrsAt w ov ws) (hol : ws.length ≤ 140737488355328) (hoz : ∀ m ∈ ws, m.length ≤ 140737488355328) (hP : PlurW w) :
    Calls Tryz.prog 3 #[cv, .string s, ov] w fun e w' => e = .returned (.bool true) ∧ Below w.heap.size w w' := by
  have HCV := Lib.hid hc
  have HOV := Lib.hid ho
  have HP := Lib.hid hP
  obtain ⟨ca, cn, cc, rfl⟩ : ∃ a n c, cv = .slice a n c := by obtain ⟨a, c, rfl, _⟩ := hc; exact ⟨_, _, _, rfl⟩
  obtain ⟨oa, on, oc, rfl⟩ : ∃ a n c, ov = .slice a n c := by obtain ⟨a, c, rfl, _⟩ := ho; exact ⟨_, _, _, rfl⟩
  have HS1 := Lib.hid (size_any' _ cs w hc hcl hcz)
  have HS2 := Lib.hid (size_any' _ ws w ho hol hoz)
  clear hc ho hcl hcz hol hoz hP
  go_enter Tryz.func3, Tryz.ntmps3
  go_wp2_with fail
  refine HS1.out.mono ?_
  rintro e w' ⟨rfl, n1, rfl, hn1, hs1⟩
  go_wp2_with fail
  refine HS2.out.mono ?_
  rintro e w' ⟨rfl, n2, rfl, hn2, hs2⟩
  by_cases h1 : 65536 < n1
  · have g1 : decide (65536 < n1) = true := decide_eq_true h1
    clear hs1 hs2
    go_wp2
    go_ret
    exact ⟨rfl, Below.refl _ _⟩
  · have g1 : decide (65536 < n1) = false := decide_eq_false h1
    by_cases h2 : 65536 < n2
    · have g2 : decide (65536 < n2) = true := decide_eq_true h2
      clear hs1 hs2
      go_wp2
      go_ret
      exact ⟨rfl, Below.refl _ _⟩
    · have g2 : decide (65536 < n2) = false := decide_eq_false h2
      by_cases h3 : 65536 < s.size
      · have g3 : decide (65536 < s.size) = true := decide_eq_true h3
        clear hs1 hs2
        go_wp2
        go_ret
        exact ⟨rfl, Below.refl _ _⟩
      · have g3 : decide (65536 < s.size) = false := decide_eq_false h3
        have H1 := Lib.hid (hs1 (by omega))
        have H2 := Lib.hid (hs2 (by omega))
        clear hs1 hs2
        go_wp2_with fail
        refine (rules_any _ cs w HCV.out (by have := H1.out.1; omega)).mono ?_
        rintro e w1 ⟨⟨rv, rfl, hown⟩, hb1⟩
        obtain ⟨ra, rc, rfl⟩ := own_slice hown
        have HRI := Lib.hid (RulesIn.of_own hown)
        clear hown
        go_wp2_with fail
        refine (category_law (rulesL cs) _ s _ ws w1 HRI.out (by have := H1.out.1; rw [rulesL_length]; omega) (fun q hq => by have := rulesL_mem cs 65536 H1.out.2 q hq; omega) (by omega) (HOV.out.below hb1) (by have := H2.out.1; omega) (fun m hm => by have := H2.out.2 m hm; omega) (HP.out.below hb1)).mono ?_
        rintro e w2 ⟨rfl, hb2⟩
        have hb02 := hb1.trans (hb2.mono hb1.size)
        clear hb2 hb1
        go_wp2
        go_ret
        exact ⟨rfl, hb02⟩
end Go.Proofs.YtkhdbolnhcfgkaaGreatDoor

/- The plain law of Logic: rules with 'or' and with 'and' between them. -/
namespace Go.Proofs.YtkhdbolnhcfgkaaGreatDoor
open Go

def wOrL : Wd := [111, 114]
def wAndL : Wd := [97, 110, 100]

/-! ## words -/

theorem blank32 : kindL 32 = 3 := by decide

/-- what stands ahead of a blank is read by itself -/
theorem words_cut (r : List UInt8) : ∀ (n : Nat) (a : List UInt8), a.length ≤ n → ∀ (out : List Wd) (last : Nat), wordsGo (a ++ 32 :: r) out last = (wordsGo a out last).bind fun o => wordsGo r o 3 := by
  intro n
  induction n with
  | zero =>
    intro a ha out last
    have : a = [] := List.eq_nil_of_length_eq_zero (by omega)
    subst this
    rw [List.nil_append, go_blank blank32, wordsGo]
    rfl
  | succ n ih =>
    intro a ha out last
    cases a with
    | nil => rw [List.nil_append, go_blank blank32, wordsGo]; rfl
    | cons c t =>
      rw [List.cons_append]
      have ht : t.length ≤ n := by simp at ha; omega
      by_cases h3 : kindL c = 3
      · rw [go_blank h3, go_blank h3, ih t ht]
      · by_cases hj : 0 < kindL c ∧ kindL c = last
        · rw [go_join h3 hj, go_join h3 hj, ih t ht]
        · by_cases h1 : 0 < kindL c ∨ c = 61 ∨ c = 44 ∨ c = 37
          · rw [go_one h3 hj h1, go_one h3 hj h1, ih t ht]
          · have h0 : kindL c = 0 := by omega
            have hs : ¬ (c = 61 ∨ c = 44 ∨ c = 37) := fun q => h1 (.inr q)
            cases t with
            | nil =>
              rw [List.nil_append, go_bad h0 hs (by simp), go_bad1 h0 hs]
              rfl
            | cons d u =>
              rw [List.cons_append]
              by_cases h2 : (c = 33 ∧ d = 61) ∨ (c = 46 ∧ d = 46)
              · rw [go_two h0 hs h2, go_two h0 hs h2, ih u (by simp at ht; omega)]
              · rw [go_bad h0 hs h2, go_bad h0 hs h2]
                rfl

theorem joinL_app (o out : List Wd) (c : UInt8) (h : out ≠ []) : joinL (o ++ out) c = o ++ joinL out c := by
  obtain ⟨u, x, rfl⟩ : ∃ u x, out = u ++ [x] := ⟨out.dropLast, out.getLast h, by rw [List.dropLast_concat_getLast]⟩
  rw [← List.append_assoc, join_snoc, join_snoc, List.append_assoc]

/-- words that are there already stay ahead -/
theorem words_more (o : List Wd) : ∀ (n : Nat) (t : List UInt8), t.length ≤ n → ∀ (out : List Wd) (last : Nat), (last = 1 ∨ last = 2 → out ≠ []) → last ≤ 3 → wordsGo t (o ++ out) last = (wordsGo t out last).map (o ++ ·) := by
  intro n
  induction n with
  | zero =>
    intro t ht out last _ _
    have : t = [] := List.eq_nil_of_length_eq_zero (by omega)
    subst this
    rw [wordsGo, wordsGo]; rfl
  | succ n ih =>
    intro t ht out last hl h3l
    cases t with
    | nil => rw [wordsGo, wordsGo]; rfl
    | cons c t =>
      have ht : t.length ≤ n := by simp at ht; omega
      by_cases h3 : kindL c = 3
      · rw [go_blank h3, go_blank h3, ih t ht _ _ (by omega) (by omega)]
      · have hk := kindL_le c
        by_cases hj : 0 < kindL c ∧ kindL c = last
        · have hne := hl (by omega)
          rw [go_join h3 hj, go_join h3 hj, joinL_app _ _ _ hne, ih t ht _ _ (fun _ => ?_) hk]
          intro e
          have := congrArg List.length e
          simp [joinL] at this
          exact hne this
        · by_cases h1 : 0 < kindL c ∨ c = 61 ∨ c = 44 ∨ c = 37
          · rw [go_one h3 hj h1, go_one h3 hj h1, List.append_assoc, ih t ht _ _ (fun _ => by simp) hk]
          · have h0 : kindL c = 0 := by omega
            have hs : ¬ (c = 61 ∨ c = 44 ∨ c = 37) := fun q => h1 (.inr q)
            cases t with
            | nil => rw [go_bad1 h0 hs, go_bad1 h0 hs]; rfl
            | cons d u =>
              by_cases h2 : (c = 33 ∧ d = 61) ∨ (c = 46 ∧ d = 46)
              · rw [go_two h0 hs h2, go_two h0 hs h2, List.append_assoc, ih u (by simp at ht; omega) _ _ (fun _ => by simp) (by omega)]
              · rw [go_bad h0 hs h2, go_bad h0 hs h2]; rfl

theorem idx_none {l : List UInt8} (h : (64 : UInt8) ∉ l) : l.take (l.idxOf 64) = l := List.take_of_length_le (by
  have : ¬ l.idxOf 64 < l.length := fun q => h (List.idxOf_lt_length_iff.1 q)
  omega)

/-- the words of two rules with a word between -/
theorem words_join (a b m : List UInt8) (ha : (64 : UInt8) ∉ a) (hm : (64 : UInt8) ∉ m) (hw : ∀ o, wordsGo m o 3 = some (o ++ [m])) {wa wb : List Wd} (h1 : wordsL a = some wa) (h2 : wordsL b = some wb) :
    wordsL (a ++ (32 :: m ++ 32 :: b)) = some (wa ++ m :: wb) := by
  unfold wordsL at *
  rw [idx_none ha] at h1
  have hcut : (a ++ (32 :: m ++ 32 :: b)).take ((a ++ (32 :: m ++ 32 :: b)).idxOf 64) = a ++ 32 :: (m ++ 32 :: (b.take (b.idxOf 64))) := by
    have e : a ++ (32 :: m ++ 32 :: b) = (a ++ 32 :: m ++ [32]) ++ b := by simp
    have hn : (64 : UInt8) ∉ a ++ 32 :: m ++ [32] := by simp [ha, hm]
    rw [e, List.idxOf_append, if_neg hn, Nat.add_comm, List.take_length_add_append]
    simp
  rw [hcut, words_cut _ _ _ (Nat.le_refl _), h1]
  show wordsGo (m ++ 32 :: _) wa 3 = _
  rw [words_cut _ _ _ (Nat.le_refl _), hw]
  show wordsGo _ (wa ++ [m]) 3 = _
  have := words_more (wa ++ [m]) _ (b.take (b.idxOf 64)) (Nat.le_refl _) [] 3 (by omega) (by omega)
  rw [List.append_nil] at this
  rw [this, h2]
  simp

theorem or_word (o : List Wd) : wordsGo wOrL o 3 = some (o ++ [wOrL]) := by
  have := words_more o _ wOrL (Nat.le_refl _) [] 3 (by omega) (by omega)
  rw [List.append_nil] at this
  rw [this, show wordsGo wOrL [] 3 = some [wOrL] by decide]
  rfl
theorem and_word (o : List Wd) : wordsGo wAndL o 3 = some (o ++ [wAndL]) := by
  have := words_more o _ wAndL (Nat.le_refl _) [] 3 (by omega) (by omega)
  rw [List.append_nil] at this
  rw [this, show wordsGo wAndL [] 3 = some [wAndL] by decide]
  rfl

/-- a word stands in the text -/
theorem words_infix : ∀ (n : Nat) (t : List UInt8), t.length ≤ n → ∀ (p : List UInt8) (out : List Wd) (last : Nat) (ws : List Wd), (∀ w ∈ out, w <:+: p) → (last = 1 ∨ last = 2 → ∃ u x, out = u ++ [x] ∧ x <:+ p) → last ≤ 3 → wordsGo t out last = some ws → ∀ w ∈ ws, w <:+: p ++ t := by
  intro n
  induction n with
  | zero =>
    intro t ht p out last ws ho _ _ h w hw
    have : t = [] := List.eq_nil_of_length_eq_zero (by omega)
    subst this
    rw [wordsGo] at h
    cases h
    rw [List.append_nil]
    exact ho w hw
  | succ n ih =>
    intro t ht p out last ws ho hl h3l h w hw
    cases t with
    | nil =>
      rw [wordsGo] at h
      cases h
      rw [List.append_nil]
      exact ho w hw
    | cons c t =>
      have ht : t.length ≤ n := by simp at ht; omega
      have hk := kindL_le c
      have ho' : ∀ w ∈ out, w <:+: p ++ [c] := fun w hw => (ho w hw).trans (List.prefix_append _ _).isInfix
      have e : p ++ c :: t = (p ++ [c]) ++ t := by simp
      rw [e]
      by_cases h3 : kindL c = 3
      · rw [go_blank h3] at h
        exact ih t ht _ _ _ _ ho' (by omega) (by omega) h w hw
      · by_cases hj : 0 < kindL c ∧ kindL c = last
        · obtain ⟨u, x, rfl, hx⟩ := hl (by omega)
          rw [go_join h3 hj, join_snoc] at h
          have hx' : x ++ [c] <:+ p ++ [c] := by
            obtain ⟨q, rfl⟩ := hx
            exact ⟨q, by simp⟩
          refine ih t ht _ _ _ _ ?_ (fun _ => ⟨u, _, rfl, hx'⟩) hk h w hw
          intro w hw
          rcases List.mem_append.1 hw with q | q
          · exact ho' w (List.mem_append.2 (.inl q))
          · rw [List.mem_singleton.1 q]; exact hx'.isInfix
        · have hc : [c] <:+ p ++ [c] := List.suffix_append _ _
          by_cases h1 : 0 < kindL c ∨ c = 61 ∨ c = 44 ∨ c = 37
          · rw [go_one h3 hj h1] at h
            refine ih t ht _ _ _ _ ?_ (fun _ => ⟨out, _, rfl, hc⟩) hk h w hw
            intro w hw
            rcases List.mem_append.1 hw with q | q
            · exact ho' w q
            · rw [List.mem_singleton.1 q]; exact hc.isInfix
          · have h0 : kindL c = 0 := by omega
            have hs : ¬ (c = 61 ∨ c = 44 ∨ c = 37) := fun q => h1 (.inr q)
            cases t with
            | nil => rw [go_bad1 h0 hs] at h; cases h
            | cons d u =>
              by_cases h2 : (c = 33 ∧ d = 61) ∨ (c = 46 ∧ d = 46)
              · rw [go_two h0 hs h2] at h
                have e2 : p ++ [c] ++ d :: u = (p ++ [c, d]) ++ u := by simp
                rw [e2]
                refine ih u (by simp at ht; omega) _ _ _ _ ?_ (by omega) (by omega) h w hw
                intro w hw
                rcases List.mem_append.1 hw with q | q
                · exact (ho w q).trans (List.prefix_append _ _).isInfix
                · rw [List.mem_singleton.1 q]; exact (List.suffix_append _ _).isInfix
              · rw [go_bad h0 hs h2] at h; cases h

theorem word_infix {s : List UInt8} {ws : List Wd} (h : wordsL s = some ws) : ∀ w ∈ ws, w <:+: s := by
  intro w hw
  have := words_infix _ _ (Nat.le_refl _) [] [] 3 ws (by simp) (by omega) (by omega) h w hw
  rw [List.nil_append] at this
  exact this.trans (List.take_prefix _ _).isInfix

/-! ## parts -/

theorem partsGo_cut (m : Wd) (r : List Wd) : ∀ (l cur : List Wd), partsGo m cur (l ++ m :: r) = partsGo m cur l ++ partsGo m [] r
  | [], cur => by rw [List.nil_append, partsGo, partsGo, if_pos rfl]; rfl
  | x :: t, cur => by
    rw [List.cons_append, partsGo, partsGo]
    by_cases h : x = m
    · rw [if_pos h, if_pos h, partsGo_cut m r t]; rfl
    · rw [if_neg h, if_neg h, partsGo_cut m r t]

theorem parts_cut2 (m : Wd) (l r : List Wd) : partsL m (l ++ m :: r) = partsL m l ++ partsL m r := partsGo_cut m r l []

theorem partsGo_head (m : Wd) : ∀ (l cur : List Wd), ∃ h t, partsGo m [] l = h :: t ∧ partsGo m cur l = (cur ++ h) :: t
  | [], cur => ⟨[], [], rfl, by rw [partsGo, List.append_nil]⟩
  | x :: t, cur => by
    by_cases h : x = m
    · exact ⟨[], partsGo m [] t, by rw [partsGo, if_pos h], by rw [partsGo, if_pos h, List.append_nil]⟩
    · obtain ⟨a, b, h1, h2⟩ := partsGo_head m t [x]
      obtain ⟨a', b', h1', h2'⟩ := partsGo_head m t (cur ++ [x])
      rw [h1] at h1'
      cases h1'
      refine ⟨[x] ++ a, b, ?_, ?_⟩
      · rw [partsGo, if_neg h]; exact h2
      · rw [partsGo, if_neg h, h2']; simp

theorem partsGo_mid (m y : Wd) (hy : y ≠ m) (r : List Wd) : ∀ (l cur : List Wd), ∃ P la fb Q, partsGo m cur l = P ++ [la] ∧ partsGo m [] r = fb :: Q ∧ partsGo m cur (l ++ y :: r) = P ++ (la ++ y :: fb) :: Q
  | [], cur => by
    obtain ⟨h, t, h1, h2⟩ := partsGo_head m r (cur ++ [y])
    refine ⟨[], cur, h, t, by rw [partsGo]; rfl, h1, ?_⟩
    rw [List.nil_append, partsGo, if_neg hy, h2]
    simp
  | x :: t, cur => by
    by_cases h : x = m
    · obtain ⟨P, la, fb, Q, h1, h2, h3⟩ := partsGo_mid m y hy r t []
      exact ⟨cur :: P, la, fb, Q, by rw [partsGo, if_pos h, h1]; rfl, h2, by rw [List.cons_append, partsGo, if_pos h, h3]; rfl⟩
    · obtain ⟨P, la, fb, Q, h1, h2, h3⟩ := partsGo_mid m y hy r t (cur ++ [x])
      exact ⟨P, la, fb, Q, by rw [partsGo, if_neg h, h1], h2, by rw [List.cons_append, partsGo, if_neg h, h3]⟩

theorem partsGo_none (m : Wd) : ∀ (l cur : List Wd), m ∉ l → partsGo m cur l = [cur ++ l]
  | [], cur, _ => by rw [partsGo, List.append_nil]
  | x :: t, cur, h => by
    rw [partsGo, if_neg (fun e => h (by rw [e]; exact List.mem_cons_self ..)), partsGo_none m t _ (fun q => h (List.mem_cons_of_mem _ q))]
    simp

/-! ## rows -/

theorem ands_app (x : Dg) (Q : List (List Wd)) : ∀ (P : List (List Wd)) (b : Bool), andsGo x (P ++ Q) b = (andsGo x P b).bind fun c => andsGo x Q c
  | [], b => by rw [List.nil_append, andsGo]; rfl
  | s :: t, b => by
    rw [List.cons_append, andsGo, andsGo]
    cases relL s x with
    | none => rfl
    | some h => exact ands_app x Q t _
theorem ors_app (x : Dg) (Q : List (List Wd)) : ∀ (P : List (List Wd)) (b : Bool), orsGo x (P ++ Q) b = (orsGo x P b).bind fun c => orsGo x Q c
  | [], b => by rw [List.nil_append, orsGo]; rfl
  | s :: t, b => by
    rw [List.cons_append, orsGo, orsGo]
    cases andsGo x (partsL [97, 110, 100] s) true with
    | none => rfl
    | some h => exact ors_app x Q t _

theorem ands_with (x : Dg) : ∀ (P : List (List Wd)) (b : Bool), andsGo x P b = (andsGo x P true).map (b && ·)
  | [], b => by rw [andsGo, andsGo]; simp
  | s :: t, b => by
    rw [andsGo, andsGo]
    cases relL s x with
    | none => rfl
    | some h =>
      dsimp only
      rw [ands_with x t (b && h), ands_with x t (true && h)]
      cases andsGo x t true <;> simp [Bool.and_assoc]
theorem ors_with (x : Dg) : ∀ (P : List (List Wd)) (b : Bool), orsGo x P b = (orsGo x P false).map (b || ·)
  | [], b => by rw [orsGo, orsGo]; simp
  | s :: t, b => by
    rw [orsGo, orsGo]
    cases andsGo x (partsL [97, 110, 100] s) true with
    | none => rfl
    | some h =>
      dsimp only
      rw [ors_with x t (b || h), ors_with x t (false || h)]
      cases orsGo x t false <;> simp [Bool.or_assoc]

theorem ors_some2 (x : Dg) : ∀ (P : List (List Wd)) (b : Bool), (orsGo x P b).isSome = true ↔ ∀ o ∈ P, (andsGo x (partsL wAndL o) true).isSome = true
  | [], b => by rw [orsGo]; simp
  | s :: t, b => by
    rw [orsGo]
    rw [show ([97, 110, 100] : Wd) = wAndL from rfl]
    cases h : andsGo x (partsL wAndL s) true with
    | none => simp [h]
    | some q => simp [ors_some2 x t, h]

theorem ors_one (x : Dg) (o : List Wd) : orsGo x [o] false = andsGo x (partsL wAndL o) true := by
  rw [orsGo, show ([97, 110, 100] : Wd) = wAndL from rfl]
  cases andsGo x (partsL wAndL o) true with
  | none => rfl
  | some h => simp [orsGo]

/-! ## rules -/

theorem holds_parts {s : List UInt8} {x : Dg} {h : Bool} (hs : holdsL s x = some h) : s.length ≤ 200 ∧ ∃ ws, wordsL s = some ws ∧ orsGo x (partsL wOrL ws) false = some h := by
  unfold holdsL at hs
  by_cases h2 : 200 < s.length
  · rw [if_pos h2] at hs; cases hs
  · rw [if_neg h2] at hs
    cases hw : wordsL s with
    | none => rw [hw] at hs; cases hs
    | some ws => rw [hw] at hs; exact ⟨by omega, ws, rfl, hs⟩

theorem holds_of {s : List UInt8} {x : Dg} {ws : List Wd} (h2 : s.length ≤ 200) (hw : wordsL s = some ws) : holdsL s x = orsGo x (partsL wOrL ws) false := by
  unfold holdsL
  rw [if_neg (by omega), hw]
  rfl

/-- 'or' between two rules -/
theorem or_law2 {a b : List UInt8} {x : Dg} {p q : Bool} (hl : a.length + b.length ≤ 190) (ha : (64 : UInt8) ∉ a) (h1 : holdsL a x = some p) (h2 : holdsL b x = some q) : holdsL (a ++ (32 :: wOrL ++ 32 :: b)) x = some (p || q) := by
  obtain ⟨_, wa, hwa, hoa⟩ := holds_parts h1
  obtain ⟨_, wb, hwb, hob⟩ := holds_parts h2
  rw [holds_of (by simp [wOrL]; omega) (words_join a b wOrL ha (by decide) or_word hwa hwb), parts_cut2, ors_app, hoa]
  show orsGo x (partsL wOrL wb) p = _
  rw [ors_with, hob]
  rfl

/-- 'and' between two rules: it's a rule -/
theorem and_some {a b : List UInt8} {x : Dg} {p q : Bool} (hl : a.length + b.length ≤ 190) (ha : (64 : UInt8) ∉ a) (h1 : holdsL a x = some p) (h2 : holdsL b x = some q) : (holdsL (a ++ (32 :: wAndL ++ 32 :: b)) x).isSome = true := by
  obtain ⟨_, wa, hwa, hoa⟩ := holds_parts h1
  obtain ⟨_, wb, hwb, hob⟩ := holds_parts h2
  rw [holds_of (by simp [wAndL]; omega) (words_join a b wAndL ha (by decide) and_word hwa hwb)]
  obtain ⟨P, la, fb, Q, e1, e2, e3⟩ := partsGo_mid wOrL wAndL (by decide) wb wa []
  have hA := (ors_some2 x (partsL wOrL wa) false).1 (by rw [hoa]; rfl)
  have hB := (ors_some2 x (partsL wOrL wb) false).1 (by rw [hob]; rfl)
  rw [ors_some2]
  unfold partsL at hA hB ⊢
  rw [e1] at hA
  rw [e2] at hB
  rw [e3]
  intro o ho
  rcases List.mem_append.1 ho with h | h
  · exact hA o (List.mem_append.2 (.inl h))
  · rcases List.mem_cons.1 h with rfl | h
    · have hla := hA la (List.mem_append.2 (.inr (List.mem_singleton.2 rfl)))
      have hfb := hB fb (List.mem_cons_self ..)
      rw [partsGo_cut, ands_app]
      cases hq : andsGo x (partsGo wAndL [] la) true with
      | none => rw [hq] at hla; cases hla
      | some c =>
        show (andsGo x (partsGo wAndL [] fb) c).isSome = true
        rw [ands_with]
        cases hq2 : andsGo x (partsGo wAndL [] fb) true with
        | none => rw [hq2] at hfb; cases hfb
        | some d => rfl
    · exact hB o (List.mem_cons_of_mem _ h)

/-- .. and where there is no 'or' it holds where both do -/
theorem and_law2 {a b : List UInt8} {x : Dg} {p q : Bool} (hl : a.length + b.length ≤ 190) (ha : (64 : UInt8) ∉ a) (na : ¬ wOrL <:+: a) (nb : ¬ wOrL <:+: b) (h1 : holdsL a x = some p) (h2 : holdsL b x = some q) :
    holdsL (a ++ (32 :: wAndL ++ 32 :: b)) x = some (p && q) := by
  obtain ⟨_, wa, hwa, hoa⟩ := holds_parts h1
  obtain ⟨_, wb, hwb, hob⟩ := holds_parts h2
  have ma : wOrL ∉ wa := fun h => na (word_infix hwa _ h)
  have mb : wOrL ∉ wb := fun h => nb (word_infix hwb _ h)
  rw [holds_of (by simp [wAndL]; omega) (words_join a b wAndL ha (by decide) and_word hwa hwb)]
  unfold partsL at hoa hob ⊢
  have hm : wOrL ∉ wa ++ wAndL :: wb := by
    simp only [List.mem_append, List.mem_cons, not_or]
    exact ⟨ma, by decide, mb⟩
  rw [partsGo_none _ _ _ ma, List.nil_append, ors_one] at hoa
  rw [partsGo_none _ _ _ mb, List.nil_append, ors_one] at hob
  rw [partsGo_none _ _ _ hm, List.nil_append, ors_one, parts_cut2, ands_app, hoa]
  show andsGo x (partsL wAndL wb) p = _
  rw [ands_with, hob]
  rfl
end Go.Proofs.YtkhdbolnhcfgkaaGreatDoor

/- Logic's helpers: is, holds. -/
namespace Go.Proofs.YtkhdbolnhcfgkaaGreatDoor
open Go Go.RowKit
set_option maxRecDepth 10000

def oneW : Wd := [111, 110, 101]

/-- is a number of category one by this rule alone; is it a rule, and a number -/
def isX (wh s : List UInt8) : Bool := decide (catT [(oneW, wh)] s = oneW)
def isK (wh s : List UInt8) : Bool := decide (catC [(oneW, wh)] s = 0)

theorem ruled_one (wh : List UInt8) : ruledL [(oneW, wh)] = ruleB wh := by
  unfold ruledL ruledGo ruledGo
  simp [show oneW ∈ cats5 by decide]

theorem isK_eq (wh s : List UInt8) : isK wh s = (ruleB wh && isNumL s) := by
  unfold isK catC
  rw [ruled_one]
  cases ruleB wh <;> cases isNumL s <;> rfl

theorem isX_holds {wh s : List UInt8} (h : isK wh s = true) : holdsL wh (dgL s) = some (isX wh s) := by
  rw [isK_eq, Bool.and_eq_true] at h
  have hg := num_good h.2
  have hT : catT [(oneW, wh)] s = if holdsL wh (dgL s) = some true then oneW else othW := by
    unfold catT
    rw [ruled_one, h.1, h.2]
    rfl
  have hsome : (holdsL wh (dgL s)).isSome = true := by
    rw [cond_law wh hg, Option.isSome_map, ← rule_cond]
    exact h.1
  unfold isX
  rw [hT]
  cases hh : holdsL wh (dgL s) with
  | none => rw [hh] at hsome; cases hsome
  | some b =>
    cases b
    · rw [if_neg (by simp)]
      simp [show ¬ othW = oneW by decide]
    · rw [if_pos rfl]
      simp

theorem isK_of {wh s : List UInt8} {b : Bool} (hn : isNumL s = true) (h : holdsL wh (dgL s) = some b) : isK wh s = true ∧ isX wh s = b := by
  have hk : isK wh s = true := by
    rw [isK_eq, hn, Bool.and_true, rule_cond]
    have := cond_law wh (num_good hn)
    rw [h] at this
    cases hc : condL wh with
    | none => rw [hc] at this; cases this
    | some T => rfl
  refine ⟨hk, ?_⟩
  have := isX_holds hk
  rw [h] at this
  exact (Option.some.inj this).symm

theorem isK_num {wh s : List UInt8} (h : isK wh s = true) : isNumL s = true := by
  rw [isK_eq, Bool.and_eq_true] at h
  exact h.2

set_option maxHeartbeats 2000000 in
theorem kis_any (wh s : ByteArray) (w : World) (hwh : wh.size ≤ 1000000) (hs : s.size ≤ 1000000) (hP : PlurW w) :
    Calls Tryz.prog 8 #[.string wh, .string s] w fun e w' => e = .returned (.tuple #[.bool (isX wh.data.toList s.data.toList), .bool (isK wh.data.toList s.data.toList)]) ∧ Below w.heap.size w w' := by
  have HP := Lib.hid hP
  have hcall := fun W v (h1 : RulesAt W v [(oneW, wh.data.toList)]) h2 => pcategory_any [(oneW, wh.data.toList)] v s W h1 (by simp) (by intro q hq; rw [List.mem_singleton.1 hq]; exact ⟨by show oneW.length ≤ 1000000; decide, by rw [size_toList]; exact hwh⟩) hs h2
  have HX := Lib.hid (show isX wh.data.toList s.data.toList = (catT [(oneW, wh.data.toList)] s.data.toList == [111, 110, 101]) from by unfold isX; rw [Bool.eq_iff_iff, decide_eq_true_eq, beq_iff_eq]; rfl)
  have HK := Lib.hid (show isK wh.data.toList s.data.toList = (catC [(oneW, wh.data.toList)] s.data.toList == 0) from by unfold isK; rw [Bool.eq_iff_iff, decide_eq_true_eq, beq_iff_eq])
  obtain ⟨T, hT⟩ : ∃ T, catT [(oneW, wh.data.toList)] s.data.toList = T := ⟨_, rfl⟩
  obtain ⟨C, hC⟩ : ∃ C, catC [(oneW, wh.data.toList)] s.data.toList = C := ⟨_, rfl⟩
  rw [hT, hC] at hcall
  rw [hT] at HX
  rw [hC] at HK
  have HCALL := Lib.hid hcall
  clear hcall hP hT hC
  go_enter Tryz.func8, Tryz.ntmps8
  go_wp2_with fail
  refine calls_gen ?_
  intro W hW
  have hb : Below w.heap.size w W := by rw [hW]; exact (Below.refl _ _).alloc (Nat.le_refl _) _
  have hr : RulesAt W (.slice (some ⟨w.heap.size, 0, none⟩) 1 1) [(oneW, wh.data.toList)] := by
    rw [hW]
    refine ⟨_, _, rfl, fun j hj => ⟨_, _, rfl, ?_, ?_⟩⟩
    · have : j = 0 := by simp at hj; omega
      subst this
      exact cell_made _ _ _ _ _
    · have : j = 0 := by simp at hj; omega
      subst this
      rw [cell_made]
      simp
  clear hW
  refine (HCALL.out W _ hr (HP.out.below hb)).mono ?_
  rintro e w1 ⟨rfl, hb1⟩
  have hb01 := hb.trans (hb1.mono hb.size)
  clear hb hb1 hr HCALL
  go_wp2
  refine bodyPost_ret (v := .tuple #[.bool (T == [111, 110, 101]), .bool (C == 0)]) ?_ rfl ⟨by rw [HX.out, HK.out], hb01⟩
  simp [results, Tryz.results8, go_sem]

def HoldPost (s m : List UInt8) (w : World) (e : Ending) (w' : World) : Prop := w = w' ∧ ∃ b, e = .returned (.bool b) ∧ (b = false → ¬ m <:+: s)

theorem infix_at {s m : List UInt8} (h : m <:+: s) : ∃ i, i + m.length ≤ s.length ∧ (s.drop i).take m.length = m := by
  obtain ⟨p, q, rfl⟩ := h
  refine ⟨p.length, by simp, by simp⟩

set_option maxHeartbeats 2000000 in
theorem keep_holds (s m : ByteArray) (w : World) (hs : s.size ≤ 1000000) (hm : m.size ≤ 100) (hm0 : 0 < m.size) :
    Calls Tryz.prog 9 #[.string s, .string m] w (HoldPost s.data.toList m.data.toList w) := by
  go_enter Tryz.func9, Tryz.ntmps9
  go_wp2
  go_loop [5] (fun i => ∃ k : Nat, k ≤ s.size ∧ i = .int .i64 k ∧ ∀ j, j < k → j + m.size ≤ s.size → (s.data.toList.drop j).take m.size ≠ m.data.toList) (fun i => s.size + 1 - (intOf i).toNat)
  case atStart => exact ⟨0, Nat.zero_le _, rfl, fun j h => absurd h (Nat.not_lt_zero j)⟩
  case round =>
    obtain ⟨k, hk, rfl, hno⟩ := hrel
    have HNO := Lib.hid hno
    clear hno
    have hw1 : IntKind.i64.wrap ((k : Int) + (m.size : Int)) = (k : Int) + (m.size : Int) := by simp [IntKind.wrap, IntKind.signed, IntKind.bits]; omega
    by_cases hlt : k + m.size ≤ s.size
    · have g1 : decide ((k : Int) + (m.size : Int) ≤ (s.size : Int)) = true := by simp; omega
      have hlt2 : (k : Int) + (m.size : Int) ≤ (s.size : Int) := by omega
      have h0 : (0 : Int) ≤ (k : Int) + (m.size : Int) := by omega
      have h4 : ((k : Int) + (m.size : Int)).toNat = k + m.size := by omega
      have h5 : (k : Int) ≤ (k : Int) + (m.size : Int) := by omega
      by_cases hq : s.extract k (k + m.size) = m
      · have g2 : ((s.extract k (k + m.size)).toList == m.toList) = true := by rw [hq]; simp
        clear hq
        go_wp2
        go_ret
        exact ⟨rfl, true, rfl, by simp⟩
      · have g2 : ((s.extract k (k + m.size)).toList == m.toList) = false := by
          rw [toList_at, toList_at, beq_eq_false_iff_ne]
          intro e
          exact hq (ByteArray.ext (Array.toList_inj.1 e))
        have HF := Lib.hid (show ∀ j, j < k + 1 → j + m.size ≤ s.size → (s.data.toList.drop j).take m.size ≠ m.data.toList by
          intro j h1 h2 h3
          rcases Nat.lt_or_ge j k with h | h
          · exact HNO.out j h h2 h3
          · obtain rfl : j = k := by omega
            apply hq
            rw [extract_eq, Nat.add_sub_cancel_left, h3, mk_toList])
        clear hq
        go_wp2
        go_round
        case rel => exact ⟨k + 1, by omega, by go_num, HF.out⟩
        case measure => simp [intOf]; omega
    · have g1 : decide ((k : Int) + (m.size : Int) ≤ (s.size : Int)) = false := by simp; omega
      have hlt2 : ¬ (k : Int) + (m.size : Int) ≤ (s.size : Int) := by omega
      have HF := Lib.hid (show ¬ m.data.toList <:+: s.data.toList by
        intro h
        obtain ⟨i, h1, h2⟩ := infix_at h
        rw [size_toList, size_toList] at h1
        rw [size_toList] at h2
        exact HNO.out i (by omega) h1 h2)
      go_wp2
      go_ret
      exact ⟨rfl, false, rfl, fun _ => HF.out⟩
end Go.Proofs.YtkhdbolnhcfgkaaGreatDoor
