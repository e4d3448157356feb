import Derived.Test.YtpepgmccbkkaaaaGreatDoorJ16
import Derived.Test.YtpepgmccbkkaaaaGreatDoorShelfR
import Derived.Shelf.SlicesE.Reverse

/- Walks of package decimal: Whole. -/
namespace Go.Proofs.YtpepgmccbkkaaaaGreatDoor
open Go Go.RowKit Go.Shelf Go.Sort
set_option maxRecDepth 10000

theorem holds_own {w : World} {base g cap : Nat} {e : TypeId} {zs : List Int} (h : w.ownsRow base e 1 (.slice (some ⟨g, 0, none⟩) zs.length cap) zs.length (zs.map (Value.int .u8))) : Holds (Value.int .u8) w g 0 zs.toArray := by
  intro j hj
  have hj' : j < zs.length := by simpa using hj
  refine ⟨?_, ?_⟩
  · rw [Nat.zero_add, h.cellAt j (by omega)]
    simp [hj', getElem!_pos]
  · exact h.frozenAt _

theorem own_putRow {w : World} {base g n cap : Nat} {e : TypeId} {xs : List Value} {zs : List Int} (h : w.ownsRow base e 1 (.slice (some ⟨g, 0, none⟩) n cap) n xs) (hz : zs.length = n) :
    (putRow (Value.int .u8) w g 0 zs.toArray).ownsRow base e 1 (.slice (some ⟨g, 0, none⟩) n cap) n (zs.map (Value.int .u8)) := by
  refine ⟨by simp [hz], ?_⟩
  rcases h.2 with ⟨hv, _⟩ | ⟨g2, cap2, cur, hv, hg, hh, h1, h2, h3, ht⟩
  · cases hv
  · simp only [Value.slice.injEq, Option.some.injEq, Addr.mk.injEq] at hv
    obtain ⟨⟨rfl, -⟩, -, rfl⟩ := hv
    refine .inr ⟨g, cap, putCells (Value.int .u8) 0 zs.toArray cur, rfl, hg, ?_, h1, h2, by simpa [putCells] using h3, ?_⟩
    · simp [putRow, mapBlock, Array.getElem?_modify, hh, onCells]
    · apply List.ext_getElem?
      intro j
      by_cases hj : j < n
      · have hjc : j < cur.size := by omega
        simp [putCells, List.getElem?_take, hj, hjc, hz]
      · rw [List.getElem?_eq_none (by simp; omega), List.getElem?_eq_none (by simp; omega)]

theorem below_putRow {B : Nat} {a w : World} (h : Below B a w) {g : Nat} (hg : B ≤ g) (d : Array Int) : Below B a (putRow (Value.int .u8) w g 0 d) := by
  refine h.trans ⟨rfl, rfl, rfl, by simp [putRow, mapBlock], fun k hk => ?_⟩
  simp only [putRow, mapBlock, Array.getElem?_modify]
  rw [if_neg (by omega)]

/-- Reverse of a row of the call's own -/
theorem reverse_own (g cap base : Nat) (zs : List Int) (w : World) (hz : zs.length ≤ 2000000000) (h : w.ownsRow base 5 1 (.slice (some ⟨g, 0, none⟩) zs.length cap) zs.length (zs.map (Value.int .u8))) :
    Calls Tryz.prog 122 #[.slice (some ⟨g, 0, none⟩) zs.length cap] w fun e w' => e = .returned (.tuple #[]) ∧ w'.ownsRow base 5 1 (.slice (some ⟨g, 0, none⟩) zs.length cap) zs.length (zs.reverse.map (Value.int .u8)) ∧
      w'.heap.size = w.heap.size ∧ (∀ k, k ≠ g → w'.heap[k]? = w.heap[k]?) ∧ Below base w w' := by
  have hg : base ≤ g := (h.lt g rfl).1
  refine (AnyE.slices_Reverse Tryz.laysRev (Value.int .u8) (fun _ => rfl) g 0 cap zs w (holds_own h) (by omega)).mono ?_
  rintro e w' ⟨rfl, n, rfl⟩
  have ha : (Sort.ahead w n).ownsRow base 5 1 (.slice (some ⟨g, 0, none⟩) zs.length cap) zs.length (zs.map (Value.int .u8)) := h
  refine ⟨rfl, own_putRow ha (by simp), by simp [putRow, mapBlock, Sort.ahead], fun k hk => ?_, below_putRow (show Below base w (Sort.ahead w n) from ⟨rfl, rfl, rfl, Nat.le_refl _, fun _ _ => rfl⟩) hg _⟩
  simp only [putRow, mapBlock, Array.getElem?_modify]
  rw [if_neg (by omega)]
  rfl

theorem digs_vals (l : List UInt8) : digs l = (vals l).map (Value.int .u8) := by simp [digs, vals]

theorem dchar_val {d : Nat} (h : d < 10) : ((dchar d).toNat : Int) - 48 = d := by
  unfold dchar
  rw [UInt8.toNat_ofNat']
  omega

/-- what Whole hands back: a row of the call's own -/
def WholePost (v : Nat) (w : World) (e : Ending) (w' : World) : Prop :=
  (∃ g cap, e = .returned (.agg #[.bool false, .slice (some ⟨g, 0, none⟩) (decL v).length cap, .int .i64 0]) ∧ w'.ownsRow w.heap.size 5 1 (.slice (some ⟨g, 0, none⟩) (decL v).length cap) (decL v).length (digs (decL v))) ∧ Below w.heap.size w w'

set_option maxHeartbeats 1000000 in
theorem whole_any (v : Nat) (w : World) (hv : v ≤ 1000000000) : Calls Tryz.prog 110 #[.int .i64 v] w (WholePost v w) := by
  have hL := decL_length v
  obtain ⟨i, hi, hz, h2, h3⟩ := elem_bytes.info
  go_enter Tryz.func110, Tryz.ntmps110
  go_wp2
  refine wp_gen ?_
  intro W hW
  have F : W.heap.size = w.heap.size + 1 ∧ Below w.heap.size w W ∧ W.cell? ⟨w.heap.size, 0, none⟩ = some (.bool false) ∧ W.cell? ⟨w.heap.size, 1, none⟩ = some (.slice none 0 0) ∧ W.cell? ⟨w.heap.size, 2, none⟩ = some (.int .i64 0) ∧ W.frozen? ⟨w.heap.size, 1, none⟩ = false ∧ W.frozen? ⟨w.heap.size, 0, none⟩ = false ∧ W.frozen? ⟨w.heap.size, 2, none⟩ = false := by
    subst hW
    exact ⟨by simp, (Below.refl _ _).alloc (Nat.le_refl _) _, by go_simp, by go_simp, by go_simp, by go_simp, by go_simp, by go_simp⟩
  obtain ⟨f1, f2, f3, f4, f5, f6, f7, f8⟩ := F
  clear hW
  go_loopw [0, 3] (fun n ok wr => ∃ (m : Nat) (acc : List UInt8) (sv : Value) (b : Bool), n = .int .i64 m ∧ ok = .bool b ∧ m ≤ v ∧ wr.ownsRow (w.heap.size + 1) 5 1 sv acc.length (digs acc) ∧ Below w.heap.size w wr ∧ w.heap.size < wr.heap.size ∧
      wr.cell? ⟨w.heap.size, 0, none⟩ = some (.bool false) ∧ wr.cell? ⟨w.heap.size, 1, none⟩ = some sv ∧ wr.cell? ⟨w.heap.size, 2, none⟩ = some (.int .i64 0) ∧ wr.frozen? ⟨w.heap.size, 1, none⟩ = false ∧ wr.frozen? ⟨w.heap.size, 0, none⟩ = false ∧ wr.frozen? ⟨w.heap.size, 2, none⟩ = false ∧
      (b = true → decL v = decL m ++ acc.reverse) ∧ (b = false → decL v = acc.reverse)) (fun n ok _ => (intOf n).toNat + match ok with | .bool true => 1 | _ => 0)
  case atStart => exact ⟨v, [], .slice none 0 0, true, rfl, rfl, Nat.le_refl _, World.ownsRow_nil _ _ _ _, f2, by omega, f3, f4, f5, f6, f7, f8, fun _ => by simp, fun h => by cases h⟩
  case round =>
    obtain ⟨m, acc, sv, b, rfl, rfl, hm, hown, hb, hs, g0, g1, g2, g3, g4, g5, ht, hf⟩ := hrel
    clear f2 f3 f4 f5 f6 f7 f8
    cases b with
    | false =>
      have hd := hf rfl
      clear ht hf
      have hrev : acc.length = (decL v).length := by rw [hd]; simp
      have hlen : 0 < acc.length := by
        rw [hrev]
        by_cases h10 : v < 10
        · rw [decL_small h10]; simp
        · rw [decL_big h10]; simp
      obtain ⟨g, cap, rfl, hg0, hg1, hgc⟩ := own_some hown hlen
      have hR := reverse_own g cap (w.heap.size + 1) (vals acc) wr (by simp [vals]; omega) (by rw [← digs_vals]; simpa [vals] using hown)
      have hvl : (vals acc).length = acc.length := by simp [vals]
      have hrd : (vals acc).reverse.map (Value.int .u8) = digs (decL v) := by rw [hd, digs_vals]; simp [vals, List.map_reverse]
      rw [hvl, hrd, hrev] at hR
      rw [hrev] at g1
      have HR := Lib.hid hR
      clear hR hrd hd hrev hvl hgc hown
      go_wp2_with fail
      refine HR.out.mono ?_
      rintro e w1 ⟨rfl, hown1, hsz, hblk, hb1⟩
      have hne : w.heap.size ≠ g := by omega
      have e0 : w1.cell? ⟨w.heap.size, 0, none⟩ = some (.bool false) := (World.cell?_of_block (hblk _ hne)).trans g0
      have e1 : w1.cell? ⟨w.heap.size, 1, none⟩ = some (.slice (some ⟨g, 0, none⟩) (decL v).length cap) := (World.cell?_of_block (hblk _ hne)).trans g1
      have e2 : w1.cell? ⟨w.heap.size, 2, none⟩ = some (.int .i64 0) := (World.cell?_of_block (hblk _ hne)).trans g2
      have hbb : Below w.heap.size w w1 := hb.trans (hb1.mono (by omega))
      have z1 : w1.frozen? ⟨w.heap.size, 1, none⟩ = false := (World.frozen?_of_block (hblk _ hne)).trans g3
      have z0 : w1.frozen? ⟨w.heap.size, 0, none⟩ = false := (World.frozen?_of_block (hblk _ hne)).trans g4
      have z2 : w1.frozen? ⟨w.heap.size, 2, none⟩ = false := (World.frozen?_of_block (hblk _ hne)).trans g5
      clear hblk g0 g1 g2 g3 g4 g5
      go_wp2
      refine bodyPost_ret (v := .agg #[.bool false, .slice (some ⟨g, 0, none⟩) (decL v).length cap, .int .i64 0]) ?_ rfl ?_
      · simp [results, Tryz.results110, go_sem, e0, e1, e2]
      have hn : some w.heap.size ≠ (Value.slice (some ⟨g, 0, none⟩) (decL v).length cap).ownBlock := fun e => hne (by simpa [Value.ownBlock] using e)
      exact ⟨⟨g, cap, rfl, own_set (own_set (own_set (own_mono hown1 (Nat.le_succ _)) hn _) hn _) hn _⟩, ((hbb.setCell (Nat.le_refl _) _).setCell (Nat.le_refl _) _).setCell (Nat.le_refl _) _⟩
    | true =>
      have hd := ht rfl
      have HD := Lib.hid hd
      clear ht hf hd
      go_wp2_with (at_builtin; refine app_own elem_bytes rfl _ _ rfl (w.heap.size + 1) sv acc.length (digs acc) rfl (hown.alloc _) ⟨wr.heap.size, 0, none⟩ 1 1 [.int .u8 ((m : Int) % 10)] rfl rfl ?c1 ?c2 ?c3 ?c4 ?_)
      case c1 => exact cells_one (cell_made _ _ _ _ _)
      case c2 => intro u hu; simp at hu; subst hu; rfl
      case c3 =>
        have := congrArg List.length HD.out
        simp at this; omega
      case c4 => simp; omega
      intro sv' w1 hown1 hgrow
      have hb1 : Below w.heap.size w w1 := (hb.alloc hb.size _).grown hgrow (by have := hb.size; simp; omega) (fun q hq => by have := (hown.lt q hq).1; omega)
      have hne : some w.heap.size ≠ sv.ownBlock := fun e => by have := (hown.lt _ e.symm).1; omega
      have k0 : w1.cell? ⟨w.heap.size, 0, none⟩ = some (.bool false) := hgrow.cell ((World.cell?_alloc_lt _ _ _ hs).trans g0) hne
      have k1 : w1.cell? ⟨w.heap.size, 1, none⟩ = some sv := hgrow.cell ((World.cell?_alloc_lt _ _ _ hs).trans g1) hne
      have k2 : w1.cell? ⟨w.heap.size, 2, none⟩ = some (.int .i64 0) := hgrow.cell ((World.cell?_alloc_lt _ _ _ hs).trans g2) hne
      have k3 : w1.frozen? ⟨w.heap.size, 1, none⟩ = false := (World.frozen?_of_block (hgrow.block w.heap.size (by simp; omega) hne)).trans ((World.frozen?_of_block (Below.heap_alloc _ _ _ hs)).trans g3)
      have k4 : w1.frozen? ⟨w.heap.size, 0, none⟩ = false := (World.frozen?_of_block (hgrow.block w.heap.size (by simp; omega) hne)).trans ((World.frozen?_of_block (Below.heap_alloc _ _ _ hs)).trans g4)
      have k5 : w1.frozen? ⟨w.heap.size, 2, none⟩ = false := (World.frozen?_of_block (hgrow.block w.heap.size (by simp; omega) hne)).trans ((World.frozen?_of_block (Below.heap_alloc _ _ _ hs)).trans g5)
      have hs1 : w.heap.size < w1.heap.size := World.block_lt_of_cell? w1 _ k0
      have hq : ((m : Int).tdiv 10) = ((m / 10 : Nat) : Int) := by rw [Int.tdiv_eq_ediv_of_nonneg (by omega)]; rfl
      obtain ⟨a1, c1, rfl⟩ := own_slice hown1
      clear hgrow hown g0 g1 g2 g3 g4 g5 hb hs
      go_wp2
      have hown2 : (w1.setCell ⟨w.heap.size, 1, none⟩ (.slice a1 (acc.length + 1) c1)).ownsRow (w.heap.size + 1) 5 1 (.slice a1 (acc.length + 1) c1) (acc.length + 1) (digs acc ++ [.int .u8 ((m : Int) % 10)]) :=
        own_set hown1 (fun e => by have := (hown1.lt _ e.symm).1; simp at this; omega) _
      have hdg : digs (acc ++ [dchar (m % 10)]) = digs acc ++ [.int .u8 ((m : Int) % 10)] := by
        have h10 := dchar_val (d := m % 10) (by omega)
        simp only [digs, List.map_append, List.map_cons, List.map_nil, h10]
        rfl
      refine ⟨⟨m / 10, acc ++ [dchar (m % 10)], .slice a1 (acc.length + 1) c1, decide (0 < m / 10), by go_num, ?_, by omega, ?_, hb1.setCell (Nat.le_refl _) _, by simpa [World.setCell] using hs1, ?_, ?_, ?_, ?_, ?_, ?_, ?_, ?_⟩, ?_⟩
      · congr 1
        exact decide_eq_decide.2 (by omega)
      · rw [hdg]; simpa using hown2
      · go_simp
      · go_simp
      · go_simp
      · go_simp
      · go_simp
      · go_simp
      · intro h
        have h10 : 0 < m / 10 := of_decide_eq_true h
        rw [HD.out, decL_big (by omega)]
        simp
      · intro h
        have h10 : ¬ 0 < m / 10 := of_decide_eq_false h
        have : m % 10 = m := by omega
        rw [HD.out, decL_small (by omega), this]
        simp
      · by_cases h10 : 0 < m / 10
        · have : decide (0 < (m : Int) / 10) = true := decide_eq_true (by omega)
          rw [this]
          simp [intOf]; omega
        · have : decide (0 < (m : Int) / 10) = false := decide_eq_false (by omega)
          rw [this]
          simp [intOf]; omega
end Go.Proofs.YtpepgmccbkkaaaaGreatDoor

/- Numbers in memory; decimal's Trim, Abs, Broken, plural's short. -/
namespace Go.Proofs.YtpepgmccbkkaaaaGreatDoor
open Go Go.RowKit
set_option maxRecDepth 10000

/-- digits of a number that the program works on -/
structure DgOk (x : Dg) : Prop where
  dig1 : x.1.all isDig = true
  dig2 : x.2.all isDig = true
  ne : x.1 ≠ []
  len1 : x.1.length ≤ 100
  len2 : x.2.length ≤ 100

/-- a number in memory -/
def NumV (w : World) (v : Value) (x : Dg) : Prop :=
  ∃ b g cap, v = .agg #[.bool b, .slice (some ⟨g, 0, none⟩) (x.1.length + x.2.length) cap, .int .i64 x.2.length] ∧ x.1.length + x.2.length ≤ cap ∧ cap ≤ maxLen ∧ g < w.heap.size ∧ BytesAt w (some ⟨g, 0, none⟩) (vals (x.1 ++ x.2)) ∧ DgOk x

theorem NumV.below {w w' : World} {v : Value} {x : Dg} (h : NumV w v x) (hb : Below w.heap.size w w') : NumV w' v x := by
  obtain ⟨b, g, cap, h1, h2, h3, h4, h5, h6⟩ := h
  exact ⟨b, g, cap, h1, h2, h3, Nat.lt_of_lt_of_le h4 hb.size, h5.below hb, h6⟩

theorem NumV.ok {w : World} {v : Value} {x : Dg} (h : NumV w v x) : DgOk x := by
  obtain ⟨b, g, cap, h1, h2, h3, h4, h5, h6⟩ := h
  exact h6

theorem vals_append (a b : List UInt8) : vals (a ++ b) = vals a ++ vals b := by simp [vals]
theorem vals_length (a : List UInt8) : (vals a).length = a.length := by simp [vals]

theorem drop_vals (l : List UInt8) : (vals l).dropWhile (· == 0) = vals (l.dropWhile (· == 48)) := by
  induction l with
  | nil => rfl
  | cons c t ih =>
    have h2 := toNat_beq c 48
    have h3 : ((48 : UInt8).toNat : Int) = 48 := rfl
    rw [h3] at h2
    have h4 : (((c.toNat : Int) - 48) == 0) = (c == 48) := by
      rw [Bool.eq_iff_iff, beq_iff_eq, beq_iff_eq]
      rw [Bool.eq_iff_iff, beq_iff_eq, decide_eq_true_eq] at h2
      rw [← h2]
      omega
    rw [show vals (c :: t) = ((c.toNat : Int) - 48) :: vals t from rfl]
    by_cases hc : (c == 48) = true
    · rw [List.dropWhile_cons_of_pos (p := fun x : Int => x == 0) (h4.trans hc), List.dropWhile_cons_of_pos (p := fun x : UInt8 => x == 48) hc, ih]
    · rw [List.dropWhile_cons_of_neg (p := fun x : Int => x == 0) (by rw [h4]; exact hc), List.dropWhile_cons_of_neg (p := fun x : UInt8 => x == 48) hc]
      rfl

theorem plain_drop (l : List UInt8) : plainL l = if l.dropWhile (· == 48) = [] then [48] else l.dropWhile (· == 48) := by
  unfold plainL
  by_cases h : l = []
  · subst h; rfl
  · rw [if_neg h]
    induction l with
    | nil => exact absurd rfl h
    | cons c t ih =>
      by_cases hc : c = 48
      · subst hc
        rw [List.dropWhile_cons_of_pos (by decide)]
        by_cases ht : t = []
        · subst ht; rfl
        · rw [strip_step ht rfl, ih ht]
      · rw [strip_keep hc, List.dropWhile_cons_of_neg (by simpa using hc), if_neg (by simp)]

theorem plain_dig {l : List UInt8} (h : l.all isDig = true) : (plainL l).all isDig = true := by
  rw [plain_drop]
  split
  · decide
  · rw [List.all_eq_true] at h ⊢
    exact fun c hc => h c ((List.dropWhile_sublist _).subset hc)
theorem plain_ne (l : List UInt8) : plainL l ≠ [] := by
  rw [plain_drop]
  split
  · simp
  · assumption
theorem plain_len (l : List UInt8) : (plainL l).length ≤ l.length ∨ (plainL l).length = 1 := by
  rw [plain_drop]
  split
  · exact .inr rfl
  · exact .inl (List.dropWhile_sublist (· == 48) (l := l)).length_le

theorem decL_dig (n : Nat) : (decL n).all isDig = true := by
  induction n using Nat.strongRecOn with
  | _ n ih =>
    have hd : ∀ d, d < 10 → isDig (dchar d) = true := by
      intro d h
      rw [isDig_iff]
      have := dchar_val h
      omega
    by_cases h : n < 10
    · rw [decL_small h]; simp [hd n h]
    · rw [decL_big h, List.all_append, ih (n / 10) (by omega)]; simp [hd (n % 10) (by omega)]
theorem decL_ne (n : Nat) : decL n ≠ [] := by
  by_cases h : n < 10
  · rw [decL_small h]; simp
  · rw [decL_big h]; simp
theorem decL_short : ∀ (k n : Nat), n < 10 ^ (k + 1) → (decL n).length ≤ k + 1
  | 0, n, h => by rw [decL_small (by simpa using h)]; simp
  | k + 1, n, h => by
    by_cases h10 : n < 10
    · rw [decL_small h10]; simp
    · rw [decL_big h10]
      have := decL_short k (n / 10) (by rw [Nat.pow_succ] at h; omega)
      simp; omega

/-- a number that a call hands back -/
def NumPost' (x : Dg) (w : World) (e : Ending) (w' : World) : Prop := (∃ v, e = .returned v ∧ NumV w' v x) ∧ Below w.heap.size w w'

theorem num_own {w w' : World} {g cap n : Nat} {b : Bool} {d : List UInt8} {x : Dg} (hx : x.1 ++ x.2 = d) (hn : n = d.length) (ho : w'.ownsRow w.heap.size 5 1 (.slice (some ⟨g, 0, none⟩) n cap) n (digs d)) (hok : DgOk x) :
    NumV w' (.agg #[.bool b, .slice (some ⟨g, 0, none⟩) n cap, .int .i64 x.2.length]) x := by
  subst hn
  have hl : x.1.length + x.2.length = d.length := by rw [← hx]; simp
  have hlt := (ho.lt g rfl).2
  have hB := bytesAt_own ho rfl
  rw [← hx] at hB
  refine ⟨b, g, cap, by rw [hl], ?_, ?_, hlt, hB, hok⟩
  all_goals
    rcases ho.2 with ⟨hv, _⟩ | ⟨g2, cap2, cur, hv, _, _, h1, h2, _⟩
    · cases hv
    · cases hv
      omega

theorem whole_num (v : Nat) (w : World) (hv : v ≤ 1000000000) : Calls Tryz.prog 110 #[.int .i64 v] w (NumPost' (decL v, []) w) := by
  refine (whole_any v w hv).mono ?_
  rintro e w' ⟨⟨g, cap, rfl, ho⟩, hb⟩
  have := decL_short 9 v (by omega)
  exact ⟨⟨_, rfl, num_own (x := (decL v, [])) (List.append_nil _) rfl ho ⟨decL_dig v, rfl, decL_ne v, by show (decL v).length ≤ 100; omega, by simp⟩⟩, hb⟩

set_option maxHeartbeats 1000000 in
theorem trim_any (l : List UInt8) (a : Option Addr) (cap : Nat) (w : World) (hd : l.all isDig = true) (hl : l.length ≤ 100) (hcap : l.length ≤ cap) (hc2 : cap ≤ maxLen) (hB : BytesAt w a (vals l)) :
    Calls Tryz.prog 108 #[.slice a l.length cap] w (NumPost' (plainL l, []) w) := by
  have hvl := vals_length l
  have hT := trimLeft_any (vals l) a cap
  rw [hvl] at hT
  have HT := Lib.hid hT
  have HB := Lib.hid hB
  obtain ⟨r, hr⟩ : ∃ r, l.dropWhile (· == 48) = r := ⟨_, rfl⟩
  have hrv : (vals l).dropWhile (· == 0) = vals r := by rw [drop_vals, hr]
  have hpl : plainL l = if r = [] then [48] else r := by rw [plain_drop, hr]
  have hpd := plain_dig hd
  have hpn := plain_len l
  have HPL := Lib.hid hpl
  have HRV := Lib.hid hrv
  have HPD := Lib.hid hpd
  clear hT hB hvl hr hrv hpl hpd
  go_enter Tryz.func108, Tryz.ntmps108
  go_wp2_with fail
  refine (HT.out _ (by omega) hcap (by unfold maxLen at hc2; omega) ?_).mono ?_
  · exact HB.out.alloc _
  rintro e w1 ⟨⟨a', cap', rfl, h2, h3, h4⟩, rfl⟩
  rw [HRV.out, vals_length] at *
  obtain ⟨W, hW⟩ : ∃ W, W = w.alloc (.cells #[.bool false, .slice none 0 0, .int .i64 0] 65) := ⟨_, rfl⟩
  have F : W.heap.size = w.heap.size + 1 ∧ Below w.heap.size w W ∧ W.cell? ⟨w.heap.size, 0, none⟩ = some (.bool false) ∧ W.cell? ⟨w.heap.size, 1, none⟩ = some (.slice none 0 0) ∧ W.cell? ⟨w.heap.size, 2, none⟩ = some (.int .i64 0) ∧
      W.frozen? ⟨w.heap.size, 0, none⟩ = false ∧ W.frozen? ⟨w.heap.size, 1, none⟩ = false ∧ W.frozen? ⟨w.heap.size, 2, none⟩ = false := by
    subst hW
    exact ⟨by simp, (Below.refl _ _).alloc (Nat.le_refl _) _, by go_simp, by go_simp, by go_simp, by go_simp, by go_simp, by go_simp⟩
  obtain ⟨f1, f2, f3, f4, f5, f6, f7, f8⟩ := F
  rw [← hW] at h2 ⊢
  clear hW
  have hlt : w.heap.size < W.heap.size := by omega
  by_cases hr0 : r = []
  · have hp := HPL.out
    rw [if_pos hr0] at hp
    have HP := Lib.hid hp
    clear hp
    subst hr0
    go_wp2_with fail
    refine (whole_any 0 _ (by omega)).mono ?_
    rintro e w2 ⟨⟨g, cap2, rfl, ho⟩, hb2⟩
    have c0 := (hb2.cell (p := ⟨w.heap.size, 0, none⟩) hlt).trans f3
    have c1 := (hb2.cell (p := ⟨w.heap.size, 1, none⟩) hlt).trans f4
    have c2 := (hb2.cell (p := ⟨w.heap.size, 2, none⟩) hlt).trans f5
    have z0 := (hb2.frozen (p := ⟨w.heap.size, 0, none⟩) hlt).trans f6
    have z1 := (hb2.frozen (p := ⟨w.heap.size, 1, none⟩) hlt).trans f7
    have z2 := (hb2.frozen (p := ⟨w.heap.size, 2, none⟩) hlt).trans f8
    have hg := (ho.lt g rfl).1
    have hbb : Below w.heap.size w w2 := f2.trans (hb2.mono (by omega))
    clear f3 f4 f5 f6 f7 f8 hb2 f2
    go_wp2
    refine bodyPost_ret (v := .agg #[.bool false, .slice (some ⟨g, 0, none⟩) (decL 0).length cap2, .int .i64 0]) ?_ rfl ?_
    · simp [results, Tryz.results108, go_sem, c0, c1, c2]
    have hn : some w.heap.size ≠ (Value.slice (some ⟨g, 0, none⟩) (decL 0).length cap2).ownBlock := fun e => by simp [Value.ownBlock] at e; omega
    rw [HP.out]
    exact ⟨⟨_, rfl, num_own (w := w) (x := ([48], [])) (d := decL 0) (by rw [decL_small (by decide)]; rfl) rfl (own_set (own_set (own_set (own_mono ho (by omega)) hn _) hn _) hn _) ⟨by decide, rfl, by simp, by simp, by simp⟩⟩, ((hbb.setCell (Nat.le_refl _) _).setCell (Nat.le_refl _) _).setCell (Nat.le_refl _) _⟩
  · have hp := HPL.out
    rw [if_neg hr0] at hp
    have HP := Lib.hid hp
    clear hp
    have hpos : 0 < r.length := List.length_pos_iff.2 hr0
    obtain ⟨b, rfl, _⟩ := h2 0 (by rw [vals_length]; exact hpos)
    have hne : ((r.length : Int) == 0) = false := by simp; omega
    have hrl : r.length ≤ 100 := by rw [← HP.out]; omega
    have H2 := Lib.hid h2
    have HR0 := Lib.hid hr0
    clear h2 hr0
    go_wp2_with fail
    refine (clone_any r b cap' _ (by omega) H2.out).mono ?_
    rintro e w2 ⟨⟨v, rfl, ho⟩, hb2⟩
    obtain ⟨g, cap2, rfl, hg, hg2, _⟩ := own_some ho hpos
    have c0 := (hb2.cell (p := ⟨w.heap.size, 0, none⟩) hlt).trans f3
    have c1 := (hb2.cell (p := ⟨w.heap.size, 1, none⟩) hlt).trans f4
    have c2 := (hb2.cell (p := ⟨w.heap.size, 2, none⟩) hlt).trans f5
    have z0 := (hb2.frozen (p := ⟨w.heap.size, 0, none⟩) hlt).trans f6
    have z1 := (hb2.frozen (p := ⟨w.heap.size, 1, none⟩) hlt).trans f7
    have z2 := (hb2.frozen (p := ⟨w.heap.size, 2, none⟩) hlt).trans f8
    have hbb : Below w.heap.size w w2 := f2.trans (hb2.mono (by omega))
    clear f3 f4 f5 f6 f7 f8 hb2 f2
    go_wp2
    refine bodyPost_ret (v := .agg #[.bool false, .slice (some ⟨g, 0, none⟩) r.length cap2, .int .i64 0]) ?_ rfl ?_
    · simp [results, Tryz.results108, go_sem, c0, c1, c2]
    have hn : some w.heap.size ≠ (Value.slice (some ⟨g, 0, none⟩) r.length cap2).ownBlock := fun e => by simp [Value.ownBlock] at e; omega
    have hpd := HPD.out
    rw [HP.out] at hpd ⊢
    exact ⟨⟨_, rfl, num_own (w := w) (x := (r, [])) (List.append_nil _) rfl (own_set (own_set (own_set (own_mono ho (by omega)) hn _) hn _) hn _) ⟨hpd, rfl, HR0.out, hrl, by simp⟩⟩, ((hbb.setCell (Nat.le_refl _) _).setCell (Nat.le_refl _) _).setCell (Nat.le_refl _) _⟩

theorem vals_dig0 {l : List UInt8} (h : l.all isDig = true) : ∀ x ∈ vals l, 0 ≤ x ∧ x ≤ 9 := by
  intro x hx
  simp only [vals, List.mem_map] at hx
  obtain ⟨c, hc, rfl⟩ := hx
  have := (isDig_iff c).1 (List.all_eq_true.1 h c hc)
  omega

theorem any_brk (l : List UInt8) : (vals l).any (· != 0) = brk l := by
  have := zero_eq l
  unfold brk
  have h2 : (l.all (· == 48)) = !(l.any (· != 48)) := by
    rw [List.all_eq_not_any_not]
    rfl
  rw [h2] at this
  simpa using congrArg (fun b => !b) this

set_option maxHeartbeats 1000000 in
theorem int_any2 (g : Nat) (n cap sc : Nat) (b : Bool) (l : List Int) (w : World) (hl : l.length = n) (hs : sc ≤ n) (hcap : n ≤ cap) (hn : n ≤ 1000000) (hB : BytesAt w (some ⟨g, 0, none⟩) l) :
    Calls Tryz.prog 43 #[.agg #[.bool b, .slice (some ⟨g, 0, none⟩) n cap, .int .i64 sc]] w fun e w' => (∃ ad' cap', e = .returned (.slice ad' (n - sc) cap') ∧ n - sc ≤ cap' ∧ cap' ≤ cap ∧ BytesAt w' ad' (l.take (n - sc))) ∧ Below w.heap.size w w' := by
  obtain ⟨k, hk⟩ : ∃ k, n = k + sc := ⟨n - sc, by omega⟩
  subst hk
  rw [show k + sc - sc = k from by omega]
  have h0 : (0 : Int) ≤ ((k + sc : Nat) : Int) - (sc : Int) := by omega
  have h1 : ((k + sc : Nat) : Int) - (sc : Int) = (k : Int) := by omega
  have h2 : k ≤ cap := by omega
  go_enter Tryz.func43, Tryz.ntmps43
  go_wp2
  go_ret
  exact ⟨⟨_, _, rfl, by omega, by omega, (hB.alloc _).take k⟩, (Below.refl _ _).alloc (Nat.le_refl _) _⟩

set_option maxHeartbeats 1000000 in
theorem frac_any2 (g : Nat) (n cap sc : Nat) (b : Bool) (l : List Int) (w : World) (hl : l.length = n) (hs : sc ≤ n) (hcap : n ≤ cap) (hn : n ≤ 1000000) (hB : BytesAt w (some ⟨g, 0, none⟩) l) :
    Calls Tryz.prog 45 #[.agg #[.bool b, .slice (some ⟨g, 0, none⟩) n cap, .int .i64 sc]] w fun e w' => (∃ ad' cap', e = .returned (.slice (some ad') sc cap') ∧ sc ≤ cap' ∧ cap' ≤ cap ∧ BytesAt w' (some ad') (l.drop (n - sc))) ∧ Below w.heap.size w w' := by
  obtain ⟨k, hk⟩ : ∃ k, n = k + sc := ⟨n - sc, by omega⟩
  subst hk
  rw [show k + sc - sc = k from by omega]
  have h1 : ((k + sc : Nat) : Int) - (sc : Int) = (k : Int) := by omega
  have h2 : k ≤ cap := by omega
  go_enter Tryz.func45, Tryz.ntmps45
  by_cases hck : cap = k
  · have hz : l.drop k = [] := List.drop_of_length_le (by omega)
    have HZ := Lib.hid hz
    clear hz
    go_wp2
    go_ret
    refine ⟨⟨_, _, rfl, by omega, by omega, ?_⟩, (Below.refl _ _).alloc (Nat.le_refl _) _⟩
    rw [HZ.out]
    intro j hj
    simp at hj
  · go_wp2
    go_ret
    exact ⟨⟨_, _, rfl, by omega, by omega, (hB.alloc _).drop k⟩, (Below.refl _ _).alloc (Nat.le_refl _) _⟩

/-- a list of digits in memory, as a slice -/
def DigsV (w : World) (v : Value) (l : List UInt8) : Prop := ∃ a cap, v = .slice a l.length cap ∧ l.length ≤ cap ∧ cap ≤ maxLen ∧ BytesAt w a (vals l)

/-- the digits behind the point, of a number in memory -/
theorem frac_num2 (v : Value) (x : Dg) (w : World) (h : NumV w v x) :
    Calls Tryz.prog 45 #[v] w fun e w' => (∃ ad' cap', e = .returned (.slice (some ad') x.2.length cap') ∧ x.2.length ≤ cap' ∧ cap' ≤ maxLen ∧ BytesAt w' (some ad') (vals x.2)) ∧ Below w.heap.size w w' := by
  obtain ⟨b, g, cap, rfl, h2, h3, h4, h5, h6⟩ := h
  have h61 := h6.len1
  have h62 := h6.len2
  refine (frac_any2 g (x.1.length + x.2.length) cap x.2.length b (vals (x.1 ++ x.2)) w (by rw [vals_length]; simp) (by omega) h2 (by omega) h5).mono ?_
  rintro e w' ⟨⟨ad', cap', rfl, hc1, hc2, hB⟩, hb⟩
  refine ⟨⟨ad', cap', rfl, hc1, by omega, ?_⟩, hb⟩
  have : (vals (x.1 ++ x.2)).drop (x.1.length + x.2.length - x.2.length) = vals x.2 := by
    rw [Nat.add_sub_cancel, vals_append, List.drop_append_of_le_length (by rw [vals_length]; exact Nat.le_refl _), List.drop_of_length_le (by rw [vals_length]; exact Nat.le_refl _), List.nil_append]
  rw [this] at hB
  exact hB

theorem frac_num (v : Value) (x : Dg) (w : World) (h : NumV w v x) :
    Calls Tryz.prog 45 #[v] w fun e w' => (∃ ad' cap', e = .returned (.slice ad' x.2.length cap') ∧ x.2.length ≤ cap' ∧ cap' ≤ maxLen ∧ BytesAt w' ad' (vals x.2)) ∧ Below w.heap.size w w' :=
  (frac_num2 v x w h).mono fun _ _ ⟨⟨a, c, h1, h2, h3, h4⟩, hb⟩ => ⟨⟨some a, c, h1, h2, h3, h4⟩, hb⟩

theorem int_num (v : Value) (x : Dg) (w : World) (h : NumV w v x) :
    Calls Tryz.prog 43 #[v] w fun e w' => (∃ ad' cap', e = .returned (.slice ad' x.1.length cap') ∧ x.1.length ≤ cap' ∧ cap' ≤ maxLen ∧ BytesAt w' ad' (vals x.1)) ∧ Below w.heap.size w w' := by
  obtain ⟨b, g, cap, rfl, h2, h3, h4, h5, h6⟩ := h
  have h61 := h6.len1
  have h62 := h6.len2
  refine (int_any2 g (x.1.length + x.2.length) cap x.2.length b (vals (x.1 ++ x.2)) w (by rw [vals_length]; simp) (by omega) h2 (by omega) h5).mono ?_
  rintro e w' ⟨⟨ad', cap', rfl, hc1, hc2, hB⟩, hb⟩
  rw [Nat.add_sub_cancel] at hB hc1 ⊢
  refine ⟨⟨ad', cap', rfl, hc1, by omega, ?_⟩, hb⟩
  have : (vals (x.1 ++ x.2)).take x.1.length = vals x.1 := by
    rw [vals_append, List.take_append_of_le_length (by rw [vals_length]; exact Nat.le_refl _), List.take_of_length_le (by rw [vals_length]; exact Nat.le_refl _)]
  rw [this] at hB
  exact hB

set_option maxHeartbeats 1000000 in
theorem broken_any (v : Value) (x : Dg) (w : World) (h : NumV w v x) :
    Calls Tryz.prog 127 #[v] w fun e w' => e = .returned (.bool (brk x.2)) ∧ Below w.heap.size w w' := by
  have hb := any_brk x.2
  have hl := h.ok.len2
  have hF := fun W (hW : NumV W v x) => frac_num v x W hW
  have HF := Lib.hid hF
  have HH := Lib.hid h
  have HB := Lib.hid hb
  obtain ⟨b, g, cap, rfl, _, _, _, _, _⟩ := h
  clear hF hb
  go_enter Tryz.func127, Tryz.ntmps127
  go_wp2_with fail
  refine (HF.out _ (HH.out.below ((Below.refl _ _).alloc (Nat.le_refl _) _))).mono ?_
  rintro e w1 ⟨⟨ad', cap', rfl, _, _, hB⟩, hb1⟩
  have hbb : Below w.heap.size w w1 := ((Below.refl _ _).alloc (Nat.le_refl _) _).trans (hb1.mono (by simp))
  have hC := containsNZ_any (vals x.2) ad' cap' w1 (by rw [vals_length]; omega) hB
  rw [vals_length, HB.out] at hC
  have HC := Lib.hid hC
  clear hC hB hb1
  go_wp2_with fail
  refine HC.out.mono ?_
  rintro e w2 ⟨rfl, rfl⟩
  go_wp2
  go_ret
  exact ⟨rfl, hbb⟩

set_option maxHeartbeats 1000000 in
theorem abs_any (v : Value) (x : Dg) (w : World) (h : NumV w v x) : Calls Tryz.prog 106 #[v] w (NumPost' x w) := by
  have HH := Lib.hid h
  obtain ⟨b, g, cap, rfl, h2, h3, h4, h5, h6⟩ := h
  go_enter Tryz.func106, Tryz.ntmps106
  go_wp2
  refine bodyPost_ret (v := .agg #[.bool false, .slice (some ⟨g, 0, none⟩) (x.1.length + x.2.length) cap, .int .i64 x.2.length]) ?_ rfl ?_
  · simp [results, Tryz.results106, go_sem]
  have hb : Below w.heap.size w ((w.alloc (.cells #[.bool false, .slice (some ⟨g, 0, none⟩) (x.1.length + x.2.length) cap, .int .i64 x.2.length] 65)).alloc (.cells #[.bool false, .slice (some ⟨g, 0, none⟩) (x.1.length + x.2.length) cap, .int .i64 x.2.length] 65)) := ((Below.refl _ _).alloc (Nat.le_refl _) _).alloc (by simp) _
  exact ⟨⟨_, rfl, false, g, cap, rfl, h2, h3, Nat.lt_of_lt_of_le h4 hb.size, h5.below hb, h6⟩, hb⟩
end Go.Proofs.YtpepgmccbkkaaaaGreatDoor

/- plural's short and operands; decimal's Compare and Mod. -/
namespace Go.Proofs.YtpepgmccbkkaaaaGreatDoor
open Go Go.RowKit
set_option maxRecDepth 10000

theorem bytes_take {w : World} {a : Option Addr} {l : List Int} (h : BytesAt w a l) (k : Nat) : BytesAt w a (l.take k) := fun j hj => by
  obtain ⟨b, h1, h2⟩ := h j (by simp at hj; omega)
  exact ⟨b, h1, by simpa using h2⟩

theorem short_step {l : List UInt8} {k : Nat} (hk : k < l.length) (h : l[k] = 48) : shortL (l.take (k + 1)) = shortL (l.take k) := by
  rw [List.take_succ_eq_append_getElem hk, h, short_zero]

theorem short_here {l : List UInt8} {k : Nat} (hk : k < l.length) (h : ¬ l[k] = 48) : shortL (l.take (k + 1)) = l.take (k + 1) := by
  rw [List.take_succ_eq_append_getElem hk, short_keep _ _ h]

theorem val_zero_iff (c : UInt8) : (((c.toNat : Int) - 48) == 0) = (c == 48) := by
  have h2 := toNat_beq c 48
  have h3 : ((48 : UInt8).toNat : Int) = 48 := rfl
  rw [h3] at h2
  rw [Bool.eq_iff_iff, beq_iff_eq, beq_iff_eq]
  rw [Bool.eq_iff_iff, beq_iff_eq, decide_eq_true_eq] at h2
  rw [← h2]
  omega

set_option maxHeartbeats 1000000 in
theorem short_any (v : Value) (x : Dg) (w : World) (h : NumV w v x) :
    Calls Tryz.prog 112 #[v] w fun e w' => (∃ ad cap, e = .returned (.slice ad (shortL x.2).length cap) ∧ BytesAt w' ad (vals (shortL x.2)) ∧ (shortL x.2).length ≤ cap ∧ cap ≤ maxLen) ∧ Below w.heap.size w w' := by
  have hl := h.ok.len2
  have hF := fun W (hW : NumV W v x) => frac_num v x W hW
  have HF := Lib.hid hF
  have HH := Lib.hid h
  obtain ⟨b, g, cap, rfl, _, _, _, _, _⟩ := h
  clear hF
  go_enter Tryz.func112, Tryz.ntmps112
  go_wp2_with fail
  refine (HF.out _ (HH.out.below ((Below.refl _ _).alloc (Nat.le_refl _) _))).mono ?_
  rintro e w1 ⟨⟨ad', cap', rfl, hc1, hc2, hB⟩, hb1⟩
  have hbb : Below w.heap.size w w1 := ((Below.refl _ _).alloc (Nat.le_refl _) _).trans (hb1.mono (by simp))
  have HB := Lib.hid hB
  have hcm : cap' ≤ 9223372036854775807 := by unfold maxLen at hc2; omega
  clear hb1 hB
  obtain ⟨f, hf⟩ : ∃ f, f = x.2 := ⟨_, rfl⟩
  rw [← hf] at hl hc1 HB ⊢
  have HFE := Lib.hid hf
  clear hf
  go_wp2_with fail
  go_loop [3] (fun u => ∃ k cap2 : Nat, k ≤ f.length ∧ u = .slice ad' k cap2 ∧ k ≤ cap2 ∧ cap2 ≤ cap' ∧ shortL (f.take k) = shortL f) (fun u => match u with | .slice _ n _ => n | _ => 0)
  case atStart => exact ⟨f.length, cap', Nat.le_refl _, rfl, hc1, Nat.le_refl _, by rw [List.take_length]⟩
  case round =>
    obtain ⟨k, cap2, hk, rfl, h1, h2, hs⟩ := hrel
    have HS := Lib.hid hs
    clear hs
    by_cases h0 : k = 0
    · subst h0
      have hz : shortL f = [] := by rw [← HS.out]; rfl
      have HZ := Lib.hid hz
      clear hz
      go_wp2
      go_ret
      rw [← HFE.out, HZ.out]
      exact ⟨⟨ad', cap2, rfl, bytesAt_nil _ _, Nat.zero_le _, by omega⟩, hbb⟩
    · obtain ⟨m, rfl⟩ : ∃ m, k = m + 1 := ⟨k - 1, by omega⟩
      have hm : m < f.length := by omega
      obtain ⟨p, rfl, hc⟩ := HB.out m (by rw [vals_length]; exact hm)
      have hvm : (vals f)[m]'(by rw [vals_length]; exact hm) = (f[m].toNat : Int) - 48 := by simp [vals]
      rw [hvm] at hc
      have hz := val_zero_iff f[m]
      have e0 : ((m + 1 : Nat) : Int) - 1 = (m : Int) := by omega
      have e1 : (0 : Int) ≤ ((m + 1 : Nat) : Int) - 1 := by omega
      clear hvm
      by_cases h48 : f[m] = 48
      · have hz' : (((f[m].toNat : Int) - 48) == 0) = true := by rw [hz, h48]; rfl
        have hst := short_step hm h48
        rw [HS.out] at hst
        have HST := Lib.hid hst
        clear hst hz h48
        go_wp2
        exact ⟨⟨m, cap2, by omega, rfl, by omega, h2, HST.out.symm⟩, Nat.lt_succ_self _⟩
      · have hz' : (((f[m].toNat : Int) - 48) == 0) = false := by rw [hz]; simpa using h48
        have hst := short_here hm h48
        rw [HS.out] at hst
        have HST := Lib.hid hst
        clear hst hz h48
        go_wp2
        go_ret
        have hlen : (shortL f).length = m + 1 := by rw [HST.out]; simp; omega
        rw [← HFE.out, hlen]
        refine ⟨⟨some p, cap2, rfl, ?_, h1, by omega⟩, hbb⟩
        rw [HST.out, show vals (f.take (m + 1)) = (vals f).take (m + 1) by simp [vals]]
        exact bytes_take HB.out _

theorem short_dig {l : List UInt8} (h : l.all isDig = true) : (shortL l).all isDig = true := by
  unfold shortL
  rw [List.all_eq_true] at h ⊢
  intro c hc
  exact h c (List.mem_reverse.1 ((List.dropWhile_sublist _).subset (List.mem_reverse.1 hc)))
theorem short_len (l : List UInt8) : (shortL l).length ≤ l.length := by
  unfold shortL
  have := (List.dropWhile_sublist (· == 48) (l := l.reverse)).length_le
  simpa using this
end Go.Proofs.YtpepgmccbkkaaaaGreatDoor

/- plural.operand's closures. (Printed by wip/mkQ5.py) -/
namespace Go.Proofs.YtpepgmccbkkaaaaGreatDoor
open Go Go.RowKit
set_option maxRecDepth 10000

/-- the cell of a result that is a number -/
structure ResC (W : World) (q : Nat) : Prop where
  c0 : W.cell? ⟨q, 0, none⟩ = some (.bool false)
  c1 : W.cell? ⟨q, 1, none⟩ = some (.slice none 0 0)
  c2 : W.cell? ⟨q, 2, none⟩ = some (.int .i64 0)
  z0 : W.frozen? ⟨q, 0, none⟩ = false
  z1 : W.frozen? ⟨q, 1, none⟩ = false
  z2 : W.frozen? ⟨q, 2, none⟩ = false
  lt : q < W.heap.size

theorem ResC.below {W W' : World} {q : Nat} (h : ResC W q) (hb : Below W.heap.size W W') : ResC W' q :=
  ⟨(hb.cell h.lt).trans h.c0, (hb.cell h.lt).trans h.c1, (hb.cell h.lt).trans h.c2, (hb.frozen h.lt).trans h.z0, (hb.frozen h.lt).trans h.z1, (hb.frozen h.lt).trans h.z2, Nat.lt_of_lt_of_le h.lt hb.size⟩

theorem res_world (w : World) (o : Obj) : Below w.heap.size w ((w.alloc o).alloc (.cells #[.bool false, .slice none 0 0, .int .i64 0] 65)) ∧ ResC ((w.alloc o).alloc (.cells #[.bool false, .slice none 0 0, .int .i64 0] 65)) (w.heap.size + 1) := by
  have hs : (w.alloc o).heap.size = w.heap.size + 1 := by simp
  refine ⟨((Below.refl _ _).alloc (Nat.le_refl _) _).alloc (by omega) _, ?_⟩
  rw [← hs]
  exact ⟨cell_made _ _ _ _ _, cell_made _ _ _ _ _, cell_made _ _ _ _ _, by simp, by simp, by simp, by simp⟩

theorem NumV.set {w : World} {v : Value} {x : Dg} {q : Nat} {b : Bool} (h : NumV w v x) (hq : w.cell? ⟨q, 0, none⟩ = some (.bool b)) (j : Nat) (u : Value) : NumV (w.setCell ⟨q, j, none⟩ u) v x := by
  obtain ⟨b', g, cap, h1, h2, h3, h4, h5, h6⟩ := h
  have hne : g ≠ q := by
    rintro rfl
    have hp : 0 < (vals (x.1 ++ x.2)).length := by
      rw [vals_length, List.length_append]
      have := List.length_pos_iff.2 h6.ne
      omega
    obtain ⟨c, hc, hx⟩ := h5 0 hp
    cases hc
    rw [show (⟨g, 0, none⟩ : Addr).add 0 = ⟨g, 0, none⟩ from rfl, hq] at hx
    cases hx
  exact ⟨b', g, cap, h1, h2, h3, by simpa [World.setCell] using h4, h5.set (fun b hb => by cases hb; exact hne) u, h6⟩

theorem num_store {w W : World} {x : Dg} {q : Nat} {b : Bool} {s k : Value} (h : NumV W (.agg #[.bool b, s, k]) x) (hr : ResC W q) (hq : w.heap.size ≤ q) (hb : Below w.heap.size w W) :
    NumPost' x w (.returned (.agg #[.bool b, s, k])) (((W.setCell ⟨q, 0, none⟩ (.bool b)).setCell ⟨q, 1, none⟩ s).setCell ⟨q, 2, none⟩ k) := by
  have e0 : (W.setCell ⟨q, 0, none⟩ (.bool b)).cell? ⟨q, 0, none⟩ = some (.bool b) := by rw [World.cell?_setCell_same (h := hr.c0)]
  have e1 : ((W.setCell ⟨q, 0, none⟩ (.bool b)).setCell ⟨q, 1, none⟩ s).cell? ⟨q, 0, none⟩ = some (.bool b) := by rw [World.cell?_setCell_other (h := by simp)]; exact e0
  exact ⟨⟨_, rfl, ((h.set hr.c0 0 _).set e0 1 _).set e1 2 _⟩, ((hb.setCell hq _).setCell hq _).setCell hq _⟩

theorem NumV.form {w : World} {v : Value} {x : Dg} (h : NumV w v x) : ∃ b g cap n k, v = .agg #[.bool b, .slice (some ⟨g, 0, none⟩) n cap, .int .i64 k] := by
  obtain ⟨b, g, cap, h1, _⟩ := h
  exact ⟨b, g, cap, _, _, h1⟩

set_option maxHeartbeats 1000000 in
theorem op_v (v : Value) (x : Dg) (w : World) (h : NumV w v x) : Calls Tryz.prog 109 #[v] w (NumPost' (decL x.2.length, []) w) := by
  have hok := h.ok
  have hl1 := hok.len1
  have hl2 := hok.len2
  have HH := Lib.hid h
  have HO := Lib.hid hok
  obtain ⟨b, g, cap, rfl, _, _, _, _, _⟩ := h
  clear hok
  obtain ⟨hb0, hr0⟩ := res_world w (.cells #[.bool b, .slice (some ⟨g, 0, none⟩) (x.1.length + x.2.length) cap, .int .i64 x.2.length] 65)
  go_enter Tryz.func109, Tryz.ntmps109
  go_wp2_with fail
  generalize (w.alloc (.cells #[.bool b, .slice (some ⟨g, 0, none⟩) (x.1.length + x.2.length) cap, .int .i64 x.2.length] 65)).alloc (.cells #[.bool false, .slice none 0 0, .int .i64 0] 65) = W at hb0 hr0 ⊢
  refine (whole_num x.2.length _ (by omega)).mono ?_
  rintro e w2 ⟨⟨v2, rfl, hnv⟩, hb2⟩
  have hr := hr0.below hb2
  have hbb : Below w.heap.size w w2 := hb0.trans (hb2.mono (by have := hb0.size; omega))
  have c0 := hr.c0
  have c1 := hr.c1
  have c2 := hr.c2
  have z0 := hr.z0
  have z1 := hr.z1
  have z2 := hr.z2
  have HNV := Lib.hid hnv
  obtain ⟨b2, g2, cap2, n2, k2, rfl⟩ := hnv.form
  clear hnv
  go_wp2
  refine bodyPost_ret (v := .agg #[.bool b2, .slice (some ⟨g2, 0, none⟩) n2 cap2, .int .i64 k2]) ?_ rfl ?_
  · simp [results, Tryz.results109, go_sem, c0, c1, c2]
  exact num_store HNV.out hr (by omega) hbb

set_option maxHeartbeats 1000000 in
theorem op_i (v : Value) (x : Dg) (w : World) (h : NumV w v x) : Calls Tryz.prog 107 #[v] w (NumPost' (plainL x.1, []) w) := by
  have hok := h.ok
  have hl1 := hok.len1
  have hl2 := hok.len2
  have HH := Lib.hid h
  have HO := Lib.hid hok
  obtain ⟨b, g, cap, rfl, _, _, _, _, _⟩ := h
  clear hok
  obtain ⟨hb0, hr0⟩ := res_world w (.cells #[.bool b, .slice (some ⟨g, 0, none⟩) (x.1.length + x.2.length) cap, .int .i64 x.2.length] 65)
  go_enter Tryz.func107, Tryz.ntmps107
  go_wp2_with fail
  generalize (w.alloc (.cells #[.bool b, .slice (some ⟨g, 0, none⟩) (x.1.length + x.2.length) cap, .int .i64 x.2.length] 65)).alloc (.cells #[.bool false, .slice none 0 0, .int .i64 0] 65) = W at hb0 hr0 ⊢
  refine (int_num _ x _ (HH.out.below hb0)).mono ?_
  rintro e w1 ⟨⟨ad', cap', rfl, hc1, hc2, hB⟩, hb1⟩
  have hr1 := hr0.below hb1
  have hb01 : Below w.heap.size w w1 := hb0.trans (hb1.mono (by have := hb0.size; omega))
  have HB := Lib.hid hB
  clear hB
  go_wp2_with fail
  refine (trim_any x.1 ad' cap' _ HO.out.dig1 (by omega) hc1 hc2 HB.out).mono ?_
  rintro e w2 ⟨⟨v2, rfl, hnv⟩, hb2⟩
  have hr := hr1.below hb2
  have hbb : Below w.heap.size w w2 := hb01.trans (hb2.mono (by have := hb01.size; omega))
  have c0 := hr.c0
  have c1 := hr.c1
  have c2 := hr.c2
  have z0 := hr.z0
  have z1 := hr.z1
  have z2 := hr.z2
  have HNV := Lib.hid hnv
  obtain ⟨b2, g2, cap2, n2, k2, rfl⟩ := hnv.form
  clear hnv
  go_wp2
  refine bodyPost_ret (v := .agg #[.bool b2, .slice (some ⟨g2, 0, none⟩) n2 cap2, .int .i64 k2]) ?_ rfl ?_
  · simp [results, Tryz.results107, go_sem, c0, c1, c2]
  exact num_store HNV.out hr (by omega) hbb

set_option maxHeartbeats 1000000 in
theorem op_w (v : Value) (x : Dg) (w : World) (h : NumV w v x) : Calls Tryz.prog 111 #[v] w (NumPost' (decL (shortL x.2).length, []) w) := by
  have hok := h.ok
  have hl1 := hok.len1
  have hl2 := hok.len2
  have HH := Lib.hid h
  have HO := Lib.hid hok
  have hsl := short_len x.2
  obtain ⟨b, g, cap, rfl, _, _, _, _, _⟩ := h
  clear hok
  obtain ⟨hb0, hr0⟩ := res_world w (.cells #[.bool b, .slice (some ⟨g, 0, none⟩) (x.1.length + x.2.length) cap, .int .i64 x.2.length] 65)
  go_enter Tryz.func111, Tryz.ntmps111
  go_wp2_with fail
  generalize (w.alloc (.cells #[.bool b, .slice (some ⟨g, 0, none⟩) (x.1.length + x.2.length) cap, .int .i64 x.2.length] 65)).alloc (.cells #[.bool false, .slice none 0 0, .int .i64 0] 65) = W at hb0 hr0 ⊢
  refine (short_any _ x _ (HH.out.below hb0)).mono ?_
  rintro e w1 ⟨⟨ad', cap', rfl, hB, hc1, hc2⟩, hb1⟩
  have hr1 := hr0.below hb1
  have hb01 : Below w.heap.size w w1 := hb0.trans (hb1.mono (by have := hb0.size; omega))
  clear hB
  go_wp2_with fail
  refine (whole_num (shortL x.2).length _ (by omega)).mono ?_
  rintro e w2 ⟨⟨v2, rfl, hnv⟩, hb2⟩
  have hr := hr1.below hb2
  have hbb : Below w.heap.size w w2 := hb01.trans (hb2.mono (by have := hb01.size; omega))
  have c0 := hr.c0
  have c1 := hr.c1
  have c2 := hr.c2
  have z0 := hr.z0
  have z1 := hr.z1
  have z2 := hr.z2
  have HNV := Lib.hid hnv
  obtain ⟨b2, g2, cap2, n2, k2, rfl⟩ := hnv.form
  clear hnv
  go_wp2
  refine bodyPost_ret (v := .agg #[.bool b2, .slice (some ⟨g2, 0, none⟩) n2 cap2, .int .i64 k2]) ?_ rfl ?_
  · simp [results, Tryz.results111, go_sem, c0, c1, c2]
  exact num_store HNV.out hr (by omega) hbb

set_option maxHeartbeats 1000000 in
theorem op_f (v : Value) (x : Dg) (w : World) (h : NumV w v x) : Calls Tryz.prog 113 #[v] w (NumPost' (plainL x.2, []) w) := by
  have hok := h.ok
  have hl1 := hok.len1
  have hl2 := hok.len2
  have HH := Lib.hid h
  have HO := Lib.hid hok
  obtain ⟨b, g, cap, rfl, _, _, _, _, _⟩ := h
  clear hok
  obtain ⟨hb0, hr0⟩ := res_world w (.cells #[.bool b, .slice (some ⟨g, 0, none⟩) (x.1.length + x.2.length) cap, .int .i64 x.2.length] 65)
  go_enter Tryz.func113, Tryz.ntmps113
  go_wp2_with fail
  generalize (w.alloc (.cells #[.bool b, .slice (some ⟨g, 0, none⟩) (x.1.length + x.2.length) cap, .int .i64 x.2.length] 65)).alloc (.cells #[.bool false, .slice none 0 0, .int .i64 0] 65) = W at hb0 hr0 ⊢
  refine (frac_num _ x _ (HH.out.below hb0)).mono ?_
  rintro e w1 ⟨⟨ad', cap', rfl, hc1, hc2, hB⟩, hb1⟩
  have hr1 := hr0.below hb1
  have hb01 : Below w.heap.size w w1 := hb0.trans (hb1.mono (by have := hb0.size; omega))
  have HB := Lib.hid hB
  clear hB
  go_wp2_with fail
  refine (trim_any x.2 ad' cap' _ HO.out.dig2 (by omega) hc1 hc2 HB.out).mono ?_
  rintro e w2 ⟨⟨v2, rfl, hnv⟩, hb2⟩
  have hr := hr1.below hb2
  have hbb : Below w.heap.size w w2 := hb01.trans (hb2.mono (by have := hb01.size; omega))
  have c0 := hr.c0
  have c1 := hr.c1
  have c2 := hr.c2
  have z0 := hr.z0
  have z1 := hr.z1
  have z2 := hr.z2
  have HNV := Lib.hid hnv
  obtain ⟨b2, g2, cap2, n2, k2, rfl⟩ := hnv.form
  clear hnv
  go_wp2
  refine bodyPost_ret (v := .agg #[.bool b2, .slice (some ⟨g2, 0, none⟩) n2 cap2, .int .i64 k2]) ?_ rfl ?_
  · simp [results, Tryz.results113, go_sem, c0, c1, c2]
  exact num_store HNV.out hr (by omega) hbb

set_option maxHeartbeats 1000000 in
theorem op_t (v : Value) (x : Dg) (w : World) (h : NumV w v x) : Calls Tryz.prog 114 #[v] w (NumPost' (plainL (shortL x.2), []) w) := by
  have hok := h.ok
  have hl1 := hok.len1
  have hl2 := hok.len2
  have HH := Lib.hid h
  have HO := Lib.hid hok
  have hsl := short_len x.2
  obtain ⟨b, g, cap, rfl, _, _, _, _, _⟩ := h
  clear hok
  obtain ⟨hb0, hr0⟩ := res_world w (.cells #[.bool b, .slice (some ⟨g, 0, none⟩) (x.1.length + x.2.length) cap, .int .i64 x.2.length] 65)
  go_enter Tryz.func114, Tryz.ntmps114
  go_wp2_with fail
  generalize (w.alloc (.cells #[.bool b, .slice (some ⟨g, 0, none⟩) (x.1.length + x.2.length) cap, .int .i64 x.2.length] 65)).alloc (.cells #[.bool false, .slice none 0 0, .int .i64 0] 65) = W at hb0 hr0 ⊢
  refine (short_any _ x _ (HH.out.below hb0)).mono ?_
  rintro e w1 ⟨⟨ad', cap', rfl, hB, hc1, hc2⟩, hb1⟩
  have hr1 := hr0.below hb1
  have hb01 : Below w.heap.size w w1 := hb0.trans (hb1.mono (by have := hb0.size; omega))
  have HB := Lib.hid hB
  clear hB
  go_wp2_with fail
  refine (trim_any (shortL x.2) ad' cap' _ (short_dig HO.out.dig2) (by omega) hc1 hc2 HB.out).mono ?_
  rintro e w2 ⟨⟨v2, rfl, hnv⟩, hb2⟩
  have hr := hr1.below hb2
  have hbb : Below w.heap.size w w2 := hb01.trans (hb2.mono (by have := hb01.size; omega))
  have c0 := hr.c0
  have c1 := hr.c1
  have c2 := hr.c2
  have z0 := hr.z0
  have z1 := hr.z1
  have z2 := hr.z2
  have HNV := Lib.hid hnv
  obtain ⟨b2, g2, cap2, n2, k2, rfl⟩ := hnv.form
  clear hnv
  go_wp2
  refine bodyPost_ret (v := .agg #[.bool b2, .slice (some ⟨g2, 0, none⟩) n2 cap2, .int .i64 k2]) ?_ rfl ?_
  · simp [results, Tryz.results114, go_sem, c0, c1, c2]
  exact num_store HNV.out hr (by omega) hbb
end Go.Proofs.YtpepgmccbkkaaaaGreatDoor
