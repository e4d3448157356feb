import Derived.Test.YtpepgmccbkkaaaaGreatDoorJ7
import Derived.Test.YtpepgmccbkkaaaaGreatDoorShelf

/- Tests as function values; spans. -/
namespace Go.Proofs.YtpepgmccbkkaaaaGreatDoor
open Go Go.RowKit
set_option maxRecDepth 10000

/-- blocks from lo to hi are as they were -/
def KeepR (lo hi : Nat) (w W : World) : Prop := hi ≤ W.heap.size ∧ ∀ k, lo ≤ k → k < hi → W.heap[k]? = w.heap[k]?

theorem KeepR.below {lo hi : Nat} {w W W' : World} (h : KeepR lo hi w W) (hb : Below W.heap.size W W') : KeepR lo hi w W' :=
  ⟨Nat.le_trans h.1 hb.size, fun k h1 h2 => (hb.block k (Nat.lt_of_lt_of_le h2 h.1)).trans (h.2 k h1 h2)⟩
theorem KeepR.cell {lo hi : Nat} {w W : World} (h : KeepR lo hi w W) {p : Addr} (h1 : lo ≤ p.block) (h2 : p.block < hi) : W.cell? p = w.cell? p := World.cell?_of_block (w := w) (h.2 p.block h1 h2)
/-- a world between -/
theorem KeepR.via {lo hi lo' hi' : Nat} {w w' W : World} (h : KeepR lo' hi' w' W) (hk : KeepR lo hi w w') (h1 : lo' ≤ lo) (h2 : hi ≤ hi') : KeepR lo hi w W :=
  ⟨Nat.le_trans h2 h.1, fun k a b => (h.2 k (by omega) (by omega)).trans (hk.2 k a b)⟩

/-- a function value that tests numbers; it hangs on the blocks from lo to hi alone -/
def TestR (lo hi : Nat) (w : World) (v : Value) (T : Tst) : Prop :=
  ∃ k cap, v = .func (.func k) #[] cap ∧ (∀ args w, (callFunc k args).run Tryz.prog w = .ok (.enter k args) w) ∧
    ∀ W, KeepR lo hi w W → ∀ nv x, NumV W nv x → Calls Tryz.prog k (#[nv] ++ cap) W fun e W' => e = .returned (.bool (T x)) ∧ Below W.heap.size W W'

/-- a function value that makes numbers of numbers -/
def OpR (lo hi : Nat) (w : World) (v : Value) (F : Dg → Dg) : Prop :=
  ∃ k cap, v = .func (.func k) #[] cap ∧ (∀ args w, (callFunc k args).run Tryz.prog w = .ok (.enter k args) w) ∧
    ∀ W, KeepR lo hi w W → ∀ nv x, NumV W nv x → Calls Tryz.prog k (#[nv] ++ cap) W (NumPost' (F x) W)

theorem TestR.keep {lo hi lo' hi' : Nat} {w w' : World} {v : Value} {T : Tst} (h : TestR lo hi w v T) (hk : KeepR lo hi w w') (h1 : lo' ≤ lo) (h2 : hi ≤ hi') : TestR lo' hi' w' v T := by
  obtain ⟨k, cap, hv, he, hc⟩ := h
  exact ⟨k, cap, hv, he, fun W hW => hc W (hW.via hk h1 h2)⟩
theorem OpR.keep {lo hi lo' hi' : Nat} {w w' : World} {v : Value} {F : Dg → Dg} (h : OpR lo hi w v F) (hk : KeepR lo hi w w') (h1 : lo' ≤ lo) (h2 : hi ≤ hi') : OpR lo' hi' w' v F := by
  obtain ⟨k, cap, hv, he, hc⟩ := h
  exact ⟨k, cap, hv, he, fun W hW => hc W (hW.via hk h1 h2)⟩

theorem keep_refl {lo hi : Nat} {w : World} (h : hi ≤ w.heap.size) : KeepR lo hi w w := ⟨h, fun _ _ _ => rfl⟩
theorem keep_below {lo hi B : Nat} {w w' : World} (h : Below B w w') (hb : hi ≤ B) (h2 : hi ≤ w.heap.size) : KeepR lo hi w w' := ⟨Nat.le_trans h2 h.size, fun k _ hk => h.block k (by omega)⟩

set_option maxHeartbeats 1000000 in
theorem span1_any (v : Value) (x : Dg) (a b : Nat) (br : Bool) (pa pb pc : Nat) (w : World) (h : NumV w v x) (ha : a ≤ 1000000000) (hb : b ≤ 1000000000) (ca : w.cell? ⟨pa, 0, none⟩ = some (.int .i64 a)) (cb : w.cell? ⟨pb, 0, none⟩ = some (.int .i64 b)) (cc : w.cell? ⟨pc, 0, none⟩ = some (.bool br)) :
    Calls Tryz.prog 125 #[v, .pointer (some ⟨pa, 0, none⟩), .pointer (some ⟨pb, 0, none⟩), .pointer (some ⟨pc, 0, none⟩)] w fun e w' => e = .returned (.bool (spanT a b br x)) ∧ Below w.heap.size w w' := by
  have hC := fun W m (hW : NumV W v x) (hm : m ≤ 1000000000) => compare_any v x m W hW hm
  have hK := fun W (hW : NumV W v x) => broken_any v x W hW
  obtain ⟨r, hr⟩ : ∃ r, spanT a b br x = r := ⟨_, rfl⟩
  rw [hr]
  unfold spanT at hr
  obtain ⟨c1, hc1⟩ : ∃ c, cmpT x a = c := ⟨_, rfl⟩
  obtain ⟨c2, hc2⟩ : ∃ c, cmpT x b = c := ⟨_, rfl⟩
  obtain ⟨k, hk⟩ : ∃ k, brk x.2 = k := ⟨_, rfl⟩
  have h1 := fun W (hW : NumV W v x) => hC W a hW ha
  have h2 := fun W (hW : NumV W v x) => hC W b hW hb
  rw [hc1, hc2, hk] at hr
  simp only [hc1] at h1
  simp only [hc2] at h2
  simp only [hk] at hK
  have H1 := Lib.hid h1
  have H2 := Lib.hid h2
  have HK := Lib.hid hK
  have HH := Lib.hid h
  have HR := Lib.hid hr
  obtain ⟨b', g, cap, rfl, _, _, _, _, _⟩ := h
  clear hC hK h1 h2 hr hc1 hc2 hk
  have F : ∃ W, W = w.alloc (.cells #[.bool b', .slice (some ⟨g, 0, none⟩) (x.1.length + x.2.length) cap, .int .i64 x.2.length] 65) ∧ Below w.heap.size w W ∧ W.heap.size = w.heap.size + 1 ∧ W.cell? ⟨w.heap.size, 0, none⟩ = some (.bool b') ∧ W.cell? ⟨w.heap.size, 1, none⟩ = some (.slice (some ⟨g, 0, none⟩) (x.1.length + x.2.length) cap) ∧ W.cell? ⟨w.heap.size, 2, none⟩ = some (.int .i64 x.2.length) ∧
      W.cell? ⟨pa, 0, none⟩ = some (.int .i64 a) ∧ W.cell? ⟨pb, 0, none⟩ = some (.int .i64 b) ∧ W.cell? ⟨pc, 0, none⟩ = some (.bool br) :=
    ⟨_, rfl, (Below.refl _ _).alloc (Nat.le_refl _) _, by simp, by go_simp, by go_simp, by go_simp, by rw [World.cell?_alloc_some _ _ _ (by rw [ca]; rfl)]; exact ca, by rw [World.cell?_alloc_some _ _ _ (by rw [cb]; rfl)]; exact cb, by rw [World.cell?_alloc_some _ _ _ (by rw [cc]; rfl)]; exact cc⟩
  obtain ⟨W, hW, hbW, hs, d0, d1, d2, da, db, dc⟩ := F
  have HNW := Lib.hid (HH.out.below hbW)
  rw [hW] at da db dc
  go_enter Tryz.func125, Tryz.ntmps125
  go_wp2_with fail
  rw [← hW] at da db dc ⊢
  clear hW ca cb cc
  refine (H1.out _ HNW.out).mono ?_
  rintro e w1 ⟨rfl, hb1⟩
  have hlt : w.heap.size < W.heap.size := by omega
  have e0 := (hb1.cell (p := ⟨w.heap.size, 0, none⟩) hlt).trans d0
  have e1 := (hb1.cell (p := ⟨w.heap.size, 1, none⟩) hlt).trans d1
  have e2 := (hb1.cell (p := ⟨w.heap.size, 2, none⟩) hlt).trans d2
  have eb := (hb1.cell (p := ⟨pb, 0, none⟩) (World.block_lt_of_cell? W _ db)).trans db
  have ec := (hb1.cell (p := ⟨pc, 0, none⟩) (World.block_lt_of_cell? W _ dc)).trans dc
  have hbb1 : Below w.heap.size w w1 := hbW.trans (hb1.mono (by omega))
  have HN1 := Lib.hid (HNW.out.below hb1)
  have hlt1 : w.heap.size < w1.heap.size := World.block_lt_of_cell? w1 _ e0
  clear d0 d1 d2 da db dc hb1
  by_cases g1 : 0 ≤ c1
  · have g1' : decide (0 ≤ c1) = true := decide_eq_true g1
    have hr := HR.out
    rw [g1', Bool.true_and] at hr
    have HR1 := Lib.hid hr
    clear hr
    go_wp2_with fail
    refine (H2.out _ HN1.out).mono ?_
    rintro e w2 ⟨rfl, hb2⟩
    have f0 := (hb2.cell (p := ⟨w.heap.size, 0, none⟩) hlt1).trans e0
    have f1 := (hb2.cell (p := ⟨w.heap.size, 1, none⟩) hlt1).trans e1
    have f2 := (hb2.cell (p := ⟨w.heap.size, 2, none⟩) hlt1).trans e2
    have fc := (hb2.cell (p := ⟨pc, 0, none⟩) (World.block_lt_of_cell? w1 _ ec)).trans ec
    have hbb2 : Below w.heap.size w w2 := hbb1.trans (hb2.mono (by omega))
    have HN2 := Lib.hid (HN1.out.below hb2)
    clear e0 e1 e2 eb ec hb2
    by_cases g2 : c2 ≤ 0
    · have g2' : decide (c2 ≤ 0) = true := decide_eq_true g2
      have hr := HR1.out
      rw [g2', Bool.true_and] at hr
      have HR2 := Lib.hid hr
      clear hr
      cases br
      · go_wp2_with fail
        refine (HK.out _ HN2.out).mono ?_
        rintro e w3 ⟨rfl, hb3⟩
        have hbb3 : Below w.heap.size w w3 := hbb2.trans (hb3.mono hbb2.size)
        go_wp2
        go_ret
        exact ⟨by rw [← HR2.out]; rfl, hbb3⟩
      · go_wp2
        go_ret
        exact ⟨by rw [← HR2.out]; rfl, hbb2⟩
    · have g2' : decide (c2 ≤ 0) = false := decide_eq_false g2
      have hr := HR1.out
      rw [g2', Bool.false_and] at hr
      have HR2 := Lib.hid hr
      clear hr
      go_wp2
      go_ret
      exact ⟨by rw [← HR2.out]; rfl, hbb2⟩
  · have g1' : decide (0 ≤ c1) = false := decide_eq_false g1
    have hr := HR.out
    rw [g1', Bool.false_and] at hr
    have HR1 := Lib.hid hr
    clear hr
    go_wp2
    go_ret
    exact ⟨by rw [← HR1.out]; rfl, hbb1⟩

set_option maxHeartbeats 1000000 in
theorem span_any (a b : Nat) (br : Bool) (w : World) (ha : a ≤ 1000000000) (hb : b ≤ 1000000000) :
    Calls Tryz.prog 117 #[.int .i64 a, .int .i64 b, .bool br] w fun e w' => (∃ v, e = .returned v ∧ TestR w.heap.size w'.heap.size w' v (spanT a b br)) ∧ Below w.heap.size w w' := by
  have hmf : ∀ (fn : Fn) (first cap : Array Value) (w : World), (Instr.makeFunc fn first cap).run Tryz.prog w = .ok (.func fn first cap) w := fun _ _ _ _ => rfl
  go_enter Tryz.func117, Tryz.ntmps117
  go_wp2
  go_ret
  have hs : (((w.alloc (.cells #[.int .i64 a] 3)).alloc (.cells #[.int .i64 b] 3)).alloc (.cells #[.bool br] 4)).heap.size = w.heap.size + 3 := by simp
  refine ⟨⟨_, rfl, 125, _, rfl, fun args w => enters_of Tryz.func125 (by kernel_rfl) rfl args w, fun W hW nv x hx => ?_⟩, (((Below.refl _ _).alloc (Nat.le_refl _) _).alloc (by simp) _).alloc (by simp; omega) _⟩
  refine span1_any nv x a b br _ _ _ W hx ha hb ((hW.cell (Nat.le_refl _) ?_).trans ?_) ((hW.cell ?_ ?_).trans ?_) ((hW.cell ?_ ?_).trans ?_)
  all_goals first | (show w.heap.size ≤ w.heap.size + 1; omega) | (show w.heap.size ≤ w.heap.size + 1 + 1; omega) | (rw [hs]; simp; done) | (rw [hs]; simp; omega) | (show w.heap.size ≤ _; simp; done) | (show w.heap.size ≤ _; omega) | (go_simp; done)


set_option maxHeartbeats 1000000 in
theorem some11_any (v : Value) (q : Nat) (w : World) (nv : Value) (x : Dg) (T : Tst) (lo hi : Nat) (h : TestR lo hi w v T) (hhi : hi ≤ w.heap.size) (hn : NumV w nv x) (cs : Array Value) (hcs : nv = .agg cs)
    (hc : ∀ j u, cs[j]? = some u → w.cell? ⟨q, j, none⟩ = some u) :
    Calls Tryz.prog 91 #[v, .pointer (some ⟨q, 0, none⟩)] w fun e w' => e = .returned (.bool (T x)) ∧ Below w.heap.size w w' := by
  have HN := Lib.hid hn
  obtain ⟨b, g, cap, n, k, rfl⟩ := hn.form
  cases hcs
  have c0 := hc 0 _ rfl
  have c1 := hc 1 _ rfl
  have c2 := hc 2 _ rfl
  obtain ⟨K, cp, rfl, hent, hcall⟩ := h
  have hW := hcall w (keep_refl hhi) _ x HN.out
  have HW := Lib.hid hW
  clear hcall hW hc
  go_enter Tryz.func91, Tryz.ntmps91
  go_wp2_with fail
  refine HW.out.mono ?_
  rintro e w1 ⟨rfl, hb⟩
  go_wp2
  go_ret
  exact ⟨rfl, hb⟩
end Go.Proofs.YtpepgmccbkkaaaaGreatDoor

/- plural's some and all: tests of tests. -/
namespace Go.Proofs.YtpepgmccbkkaaaaGreatDoor
open Go Go.RowKit
set_option maxRecDepth 10000

/-- values in memory -/
def ValsAt (w : World) (a : Option Addr) (vs : List Value) : Prop := ∀ j (h : j < vs.length), ∃ b, a = some b ∧ w.cell? (b.add j) = some vs[j]

theorem ValsAt.below {w w' : World} {a : Option Addr} {vs : List Value} (h : ValsAt w a vs) (hb : Below w.heap.size w w') : ValsAt w' a vs := fun j hj => by
  obtain ⟨b, h1, h2⟩ := h j hj
  exact ⟨b, h1, by rw [hb.cell (World.block_lt_of_cell? w _ h2)]; exact h2⟩

/-- tests in memory: they hang on the blocks from lo to hi alone -/
def TestsR (lo hi : Nat) (w : World) (a : Option Addr) (Ts : List Tst) : Prop :=
  ∀ j (h : j < Ts.length), ∃ b v, a = some b ∧ w.cell? (b.add j) = some v ∧ lo ≤ b.block ∧ b.block < hi ∧ TestR lo hi w v Ts[j]

theorem TestsR.keep {lo hi lo' hi' : Nat} {w w' : World} {a : Option Addr} {Ts : List Tst} (h : TestsR lo hi w a Ts) (hk : KeepR lo hi w w') (h1 : lo' ≤ lo) (h2 : hi ≤ hi') : TestsR lo' hi' w' a Ts := fun j hj => by
  obtain ⟨b, v, e1, e2, e3, e4, e5⟩ := h j hj
  exact ⟨b, v, e1, by rw [hk.cell (p := b.add j) (by rw [addr_add]; exact e3) (by rw [addr_add]; exact e4)]; exact e2, by omega, by omega, e5.keep hk h1 h2⟩

/-- a number's cells in a box -/
structure BoxN (w : World) (q : Nat) (nv : Value) : Prop where
  lt : q < w.heap.size
  cells : ∃ b s k, nv = .agg #[b, s, k] ∧ w.cell? ⟨q, 0, none⟩ = some b ∧ w.cell? ⟨q, 1, none⟩ = some s ∧ w.cell? ⟨q, 2, none⟩ = some k

theorem BoxN.below {w w' : World} {q : Nat} {nv : Value} (h : BoxN w q nv) (hb : Below w.heap.size w w') : BoxN w' q nv := by
  obtain ⟨hl, b, s, k, h1, h2, h3, h4⟩ := h
  exact ⟨Nat.lt_of_lt_of_le hl hb.size, b, s, k, h1, (hb.cell hl).trans h2, (hb.cell hl).trans h3, (hb.cell hl).trans h4⟩

theorem some11_box (v : Value) (q : Nat) (w : World) (nv : Value) (x : Dg) (T : Tst) (lo hi : Nat) (h : TestR lo hi w v T) (hhi : hi ≤ w.heap.size) (hn : NumV w nv x) (hb : BoxN w q nv) :
    Calls Tryz.prog 91 #[v, .pointer (some ⟨q, 0, none⟩)] w fun e w' => e = .returned (.bool (T x)) ∧ Below w.heap.size w w' := by
  obtain ⟨_, b, s, k, h1, h2, h3, h4⟩ := hb
  refine some11_any v q w nv x T lo hi h hhi hn #[b, s, k] h1 (fun j u hu => ?_)
  match j, hu with
  | 0, hu => cases hu; exact h2
  | 1, hu => cases hu; exact h3
  | 2, hu => cases hu; exact h4
  | n + 3, hu => simp at hu

theorem anyT_of {Ts : List Tst} {x : Dg} {k : Nat} (h : k < Ts.length) (hT : Ts[k] x = true) : someT Ts x = true := List.any_eq_true.2 ⟨Ts[k], List.getElem_mem h, hT⟩
theorem anyT_snoc {Ts : List Tst} {x : Dg} {k : Nat} (h : k < Ts.length) (h0 : someT (Ts.take k) x = false) (hT : Ts[k] x = false) : someT (Ts.take (k + 1)) x = false := by
  unfold someT at *
  rw [List.take_succ_eq_append_getElem h, List.any_append, h0]
  simp [hT]

set_option maxHeartbeats 1000000 in
theorem indexT_any (Ts : List Tst) (a : Option Addr) (c : Nat) (q : Nat) (nv : Value) (x : Dg) (lo hi : Nat) (w : World) (hl : Ts.length ≤ 1000000) (ht : TestsR lo hi w a Ts) (hhi : hi ≤ w.heap.size) (hn : NumV w nv x) (hb : BoxN w q nv) :
    Calls Tryz.prog 105 #[.slice a Ts.length c, .func (.func 91) #[] #[.pointer (some ⟨q, 0, none⟩)]] w
      fun e w' => (∃ n : Int, e = .returned (.int .i64 n) ∧ decide (0 ≤ n) = someT Ts x) ∧ Below w.heap.size w w' := by
  have HT := Lib.hid ht
  have HN := Lib.hid hn
  have HB := Lib.hid hb
  clear ht hn hb
  go_enter Tryz.func105, Tryz.ntmps105
  go_wp2
  go_loopw [8] (fun i wr => ∃ k : Nat, k ≤ Ts.length ∧ i = .int .i64 k ∧ someT (Ts.take k) x = false ∧ Below w.heap.size w wr) (fun i _ => Ts.length - (intOf i).toNat)
  case atStart => exact ⟨0, Nat.zero_le _, rfl, rfl, Below.refl _ _⟩
  case round =>
    obtain ⟨k, hk, rfl, hz, hbw⟩ := hrel
    have HZ := Lib.hid hz
    clear hz
    by_cases hlt : k < Ts.length
    · obtain ⟨b, v, rfl, hc, h1, h2, hT⟩ := HT.out k hlt
      have hc' : wr.cell? (b.add k) = some v := by rw [hbw.cell (World.block_lt_of_cell? w _ hc)]; exact hc
      have hkp := keep_below (lo := lo) hbw hhi hhi
      have hcall := some11_box v q wr nv x Ts[k] lo hi (hT.keep hkp (Nat.le_refl _) (Nat.le_refl _)) (Nat.le_trans hhi hbw.size) (HN.out.below hbw) (HB.out.below hbw)
      have HC := Lib.hid hcall
      clear hc hcall hT
      go_wp2_with fail
      refine HC.out.mono ?_
      rintro e w1 ⟨rfl, hb1⟩
      have hbb := hbw.trans (hb1.mono hbw.size)
      cases hTx : Ts[k] x
      · have HF := Lib.hid (anyT_snoc hlt HZ.out hTx)
        clear hTx
        go_wp2
        go_roundw
        case rel => exact ⟨k + 1, by omega, by go_num, HF.out, hbb⟩
        case measure => simp [intOf]; omega
      · have HF := Lib.hid (anyT_of hlt hTx)
        clear hTx
        go_wp2
        go_ret
        exact ⟨⟨_, rfl, by rw [HF.out]; simp⟩, hbb⟩
    · obtain rfl : k = Ts.length := by omega
      have hz := HZ.out
      rw [List.take_length] at hz
      have HF := Lib.hid hz
      clear hz HZ
      go_wp2
      go_ret
      exact ⟨⟨_, rfl, by rw [HF.out]; rfl⟩, hbw⟩

set_option maxHeartbeats 400000 in
theorem containsT_any (Ts : List Tst) (a : Option Addr) (c : Nat) (q : Nat) (nv : Value) (x : Dg) (lo hi : Nat) (w : World) (hl : Ts.length ≤ 1000000) (ht : TestsR lo hi w a Ts) (hhi : hi ≤ w.heap.size) (hn : NumV w nv x) (hb : BoxN w q nv) :
    Calls Tryz.prog 90 #[.slice a Ts.length c, .func (.func 91) #[] #[.pointer (some ⟨q, 0, none⟩)]] w
      fun e w' => e = .returned (.bool (someT Ts x)) ∧ Below w.heap.size w w' := by
  have hI := indexT_any Ts a c q nv x lo hi w hl ht hhi hn hb
  have HI := Lib.hid hI
  clear ht hn hb hI
  go_enter Tryz.func90, Tryz.ntmps90
  go_wp2_with fail
  refine HI.out.mono ?_
  rintro e w1 ⟨⟨n, rfl, hn⟩, hb⟩
  have HF := Lib.hid hn
  clear hn
  go_wp2
  go_ret
  exact ⟨by rw [← HF.out]; rfl, hb⟩

theorem box_num {w : World} {nv : Value} {x : Dg} (h : NumV w nv x) : ∃ b s k, nv = .agg #[b, s, k] := by
  obtain ⟨b, g, cap, n, k, e⟩ := h.form
  exact ⟨_, _, _, e⟩

set_option maxHeartbeats 1000000 in
theorem some1_any (Ts : List Tst) (a : Option Addr) (c : Nat) (pl : Nat) (nv : Value) (x : Dg) (lo hi : Nat) (w : World) (hl : Ts.length ≤ 1000000) (ht : TestsR lo hi w a Ts) (hhi : hi ≤ w.heap.size) (hn : NumV w nv x) (hc : w.cell? ⟨pl, 0, none⟩ = some (.slice a Ts.length c)) :
    Calls Tryz.prog 89 #[nv, .pointer (some ⟨pl, 0, none⟩)] w fun e w' => e = .returned (.bool (someT Ts x)) ∧ Below w.heap.size w w' := by
  have hmf : ∀ (fn : Fn) (first cap : Array Value) (w : World), (Instr.makeFunc fn first cap).run Tryz.prog w = .ok (.func fn first cap) w := fun _ _ _ _ => rfl
  have HN := Lib.hid hn
  obtain ⟨b', g, cap, n', k', rfl⟩ := hn.form
  have F : ∃ W, W = w.alloc (.cells #[.bool b', .slice (some ⟨g, 0, none⟩) n' cap, .int .i64 k'] 65) ∧ Below w.heap.size w W ∧ W.heap.size = w.heap.size + 1 ∧ BoxN W w.heap.size (.agg #[.bool b', .slice (some ⟨g, 0, none⟩) n' cap, .int .i64 k']) ∧ (w.alloc (.cells #[.bool b', .slice (some ⟨g, 0, none⟩) n' cap, .int .i64 k'] 65)).cell? ⟨pl, 0, none⟩ = some (.slice a Ts.length c) :=
    ⟨_, rfl, (Below.refl _ _).alloc (Nat.le_refl _) _, by simp, ⟨by simp, _, _, _, rfl, by go_simp, by go_simp, by go_simp⟩, by rw [World.cell?_alloc_some _ _ _ (by rw [hc]; rfl)]; exact hc⟩
  obtain ⟨W, hW, hbW, hs, hbx, dc⟩ := F
  have hC := containsT_any Ts a c w.heap.size _ x lo hi W hl (ht.keep (keep_below hbW hhi hhi) (Nat.le_refl _) (Nat.le_refl _)) (by omega) (HN.out.below hbW) hbx
  have HC := Lib.hid hC
  clear hC ht hn hbx
  go_enter Tryz.func89, Tryz.ntmps89
  go_wp2_with fail
  rw [← hW]
  refine HC.out.mono ?_
  rintro e w1 ⟨rfl, hb⟩
  have hbb : Below w.heap.size w w1 := hbW.trans (hb.mono (by omega))
  go_wp2
  go_ret
  exact ⟨rfl, hbb⟩

set_option maxHeartbeats 1000000 in
theorem some_any (Ts : List Tst) (a : Option Addr) (c : Nat) (lo : Nat) (w : World) (hl : Ts.length ≤ 1000000) (hlo : lo ≤ w.heap.size) (ht : TestsR lo w.heap.size w a Ts) :
    Calls Tryz.prog 70 #[.slice a Ts.length c] w fun e w' => (∃ v, e = .returned v ∧ TestR lo w'.heap.size w' v (someT Ts)) ∧ Below w.heap.size w w' := by
  have hmf : ∀ (fn : Fn) (first cap : Array Value) (w : World), (Instr.makeFunc fn first cap).run Tryz.prog w = .ok (.func fn first cap) w := fun _ _ _ _ => rfl
  have HT := Lib.hid ht
  clear ht
  go_enter Tryz.func70, Tryz.ntmps70
  go_wp2
  go_ret
  have hb : Below w.heap.size w (w.alloc (.cells #[.slice a Ts.length c] 175)) := (Below.refl _ _).alloc (Nat.le_refl _) _
  refine ⟨⟨_, rfl, 89, _, rfl, fun args w => enters_of Tryz.func89 (by kernel_rfl) rfl args w, fun W hW nv x hx => ?_⟩, hb⟩
  have hk : KeepR lo w.heap.size w W := hW.via (keep_below hb (Nat.le_refl _) (Nat.le_refl _)) (Nat.le_refl _) hb.size
  refine some1_any Ts a c _ nv x lo w.heap.size W hl (HT.out.keep hk (Nat.le_refl _) (Nat.le_refl _)) hk.1 hx ((hW.cell hlo (by simp)).trans (by go_simp))

theorem allT_of {Ts : List Tst} {x : Dg} {k : Nat} (h : k < Ts.length) (hT : Ts[k] x = false) : allT Ts x = false := by
  unfold allT
  rw [List.all_eq_false]
  exact ⟨Ts[k], List.getElem_mem h, by simp [hT]⟩
theorem allT_snoc {Ts : List Tst} {x : Dg} {k : Nat} (h : k < Ts.length) (h0 : allT (Ts.take k) x = true) (hT : Ts[k] x = true) : allT (Ts.take (k + 1)) x = true := by
  unfold allT at *
  rw [List.take_succ_eq_append_getElem h, List.all_append, h0]
  simp [hT]

set_option maxHeartbeats 1000000 in
theorem all1_any (Ts : List Tst) (a : Option Addr) (c : Nat) (pl : Nat) (nv : Value) (x : Dg) (lo hi : Nat) (w : World) (hl : Ts.length ≤ 1000000) (ht : TestsR lo hi w a Ts) (hhi : hi ≤ w.heap.size) (hn : NumV w nv x) (hc : w.cell? ⟨pl, 0, none⟩ = some (.slice a Ts.length c)) :
    Calls Tryz.prog 92 #[nv, .pointer (some ⟨pl, 0, none⟩)] w fun e w' => e = .returned (.bool (allT Ts x)) ∧ Below w.heap.size w w' := by
  have HN := Lib.hid hn
  obtain ⟨b', g, cap, n', k', rfl⟩ := hn.form
  have F : ∃ W, W = w.alloc (.cells #[.bool b', .slice (some ⟨g, 0, none⟩) n' cap, .int .i64 k'] 65) ∧ Below w.heap.size w W ∧ W.heap.size = w.heap.size + 1 ∧ BoxN W w.heap.size (.agg #[.bool b', .slice (some ⟨g, 0, none⟩) n' cap, .int .i64 k']) ∧ (w.alloc (.cells #[.bool b', .slice (some ⟨g, 0, none⟩) n' cap, .int .i64 k'] 65)).cell? ⟨pl, 0, none⟩ = some (.slice a Ts.length c) :=
    ⟨_, rfl, (Below.refl _ _).alloc (Nat.le_refl _) _, by simp, ⟨by simp, _, _, _, rfl, by go_simp, by go_simp, by go_simp⟩, by rw [World.cell?_alloc_some _ _ _ (by rw [hc]; rfl)]; exact hc⟩
  obtain ⟨W, hW, hbW, hs, hbx, dc⟩ := F
  have HT := Lib.hid (ht.keep (keep_below hbW hhi hhi) (Nat.le_refl _) (Nat.le_refl _))
  have HNW := Lib.hid (HN.out.below hbW)
  have hhiW : hi ≤ W.heap.size := by omega
  clear ht hn
  go_enter Tryz.func92, Tryz.ntmps92
  go_wp2_with fail
  rw [← hW]
  clear hW dc hc
  obtain ⟨B, hB⟩ : ∃ B, B = w.heap.size := ⟨_, rfl⟩
  rw [← hB] at hbx ⊢
  have HBE := Lib.hid hB
  clear hB
  go_loopw [8] (fun i wr => ∃ k : Nat, k ≤ Ts.length ∧ i = .int .i64 k ∧ allT (Ts.take k) x = true ∧ Below W.heap.size W wr) (fun i _ => Ts.length - (intOf i).toNat)
  case atStart => exact ⟨0, Nat.zero_le _, rfl, rfl, Below.refl _ _⟩
  case round =>
    obtain ⟨k, hk, rfl, hz, hbw⟩ := hrel
    have HZ := Lib.hid hz
    clear hz
    have hbb0 : Below w.heap.size w wr := hbW.trans (hbw.mono (by omega))
    by_cases hlt : k < Ts.length
    · obtain ⟨b, v, rfl, hc, h1, h2, hT⟩ := HT.out k hlt
      have hc' : wr.cell? (b.add k) = some v := by rw [hbw.cell (World.block_lt_of_cell? W _ hc)]; exact hc
      have hkp := keep_below (lo := lo) hbw hhiW hhiW
      obtain ⟨K, cp, rfl, hent, hcall⟩ := hT.keep hkp (Nat.le_refl _) (Nat.le_refl _)
      have hcl := hcall wr (keep_refl (Nat.le_trans hhiW hbw.size)) _ x (HNW.out.below hbw)
      have HC := Lib.hid hcl
      obtain ⟨_, bb, ss, kk, e0, c0, c1, c2⟩ := hbx.below hbw
      cases e0
      clear hc hcall hcl hT
      go_wp2_with fail
      refine HC.out.mono ?_
      rintro e w1 ⟨rfl, hb1⟩
      have hbb := hbw.trans (hb1.mono hbw.size)
      have hbb1 : Below w.heap.size w w1 := hbb0.trans (hb1.mono hbb0.size)
      cases hTx : Ts[k] x
      · have HF := Lib.hid (allT_of hlt hTx)
        clear hTx
        go_wp2
        go_ret
        exact ⟨by rw [HF.out]; rfl, hbb1⟩
      · have HF := Lib.hid (allT_snoc hlt HZ.out hTx)
        clear hTx
        go_wp2
        go_roundw
        case rel => exact ⟨k + 1, by omega, by go_num, HF.out, hbb⟩
        case measure => simp [intOf]; omega
    · obtain rfl : k = Ts.length := by omega
      have hz := HZ.out
      rw [List.take_length] at hz
      have HF := Lib.hid hz
      clear hz HZ
      go_wp2
      go_ret
      exact ⟨by rw [HF.out]; rfl, hbb0⟩

set_option maxHeartbeats 1000000 in
theorem all_any (Ts : List Tst) (a : Option Addr) (c : Nat) (lo : Nat) (w : World) (hl : Ts.length ≤ 1000000) (hlo : lo ≤ w.heap.size) (ht : TestsR lo w.heap.size w a Ts) :
    Calls Tryz.prog 72 #[.slice a Ts.length c] w fun e w' => (∃ v, e = .returned v ∧ TestR lo w'.heap.size w' v (allT Ts)) ∧ Below w.heap.size w w' := by
  have hmf : ∀ (fn : Fn) (first cap : Array Value) (w : World), (Instr.makeFunc fn first cap).run Tryz.prog w = .ok (.func fn first cap) w := fun _ _ _ _ => rfl
  have HT := Lib.hid ht
  clear ht
  go_enter Tryz.func72, Tryz.ntmps72
  go_wp2
  go_ret
  have hb : Below w.heap.size w (w.alloc (.cells #[.slice a Ts.length c] 175)) := (Below.refl _ _).alloc (Nat.le_refl _) _
  refine ⟨⟨_, rfl, 92, _, rfl, fun args w => enters_of Tryz.func92 (by kernel_rfl) rfl args w, fun W hW nv x hx => ?_⟩, hb⟩
  have hk : KeepR lo w.heap.size w W := hW.via (keep_below hb (Nat.le_refl _) (Nat.le_refl _)) (Nat.le_refl _) hb.size
  refine all1_any Ts a c _ nv x lo w.heap.size W hl (HT.out.keep hk (Nat.le_refl _) (Nat.le_refl _)) hk.1 hx ((hW.cell hlo (by simp)).trans (by go_simp))
end Go.Proofs.YtpepgmccbkkaaaaGreatDoor

/- plural's operand; the closures of a relation. -/
namespace Go.Proofs.YtpepgmccbkkaaaaGreatDoor
open Go Go.RowKit
set_option maxRecDepth 10000

/-- a function value that hangs on no memory -/
theorem opR_const {k : Nat} {F : Dg → Dg} (he : ∀ args w, (callFunc k args).run Tryz.prog w = .ok (.enter k args) w) (h : ∀ v x w, NumV w v x → Calls Tryz.prog k #[v] w (NumPost' (F x) w)) (lo hi : Nat) (w : World) : OpR lo hi w (.func (.func k) #[] #[]) F :=
  ⟨k, #[], rfl, he, fun W _ nv x hx => h nv x W hx⟩

def OperandQ (r : Option (Dg → Dg)) (w : World) (e : Ending) (w' : World) : Prop :=
  (match r with | none => e = .returned .nilFunc | some F => ∃ v, e = .returned v ∧ ∀ lo hi W, OpR lo hi W v F) ∧ w = w'

set_option maxHeartbeats 2000000 in
theorem poperand_any (c : ByteArray) (w : World) : Calls Tryz.prog 93 #[.string c] w (OperandQ (operandF c.data.toList) w) := by
  have ht := toList_at c
  by_cases h1 : c.data.toList = [110]
  · have hf : operandF c.data.toList = some (fun x => x) := by unfold operandF; rw [if_pos h1]
    rw [hf]
    have q1 : (c.toList == [110]) = true := by rw [ht, h1]; decide
    clear ht h1 hf
    go_enter Tryz.func93, Tryz.ntmps93
    go_wp2
    go_ret
    exact ⟨⟨_, rfl, opR_const (fun args w => enters_of Tryz.func106 (by kernel_rfl) rfl args w) (fun v x w h => abs_any v x w h)⟩, rfl⟩
  have q1 : (c.toList == [110]) = false := by rw [ht]; simpa using h1
  by_cases h2 : c.data.toList = [105]
  · have hf : operandF c.data.toList = some (fun x => (plainL x.1, [])) := by unfold operandF; rw [if_neg h1, if_pos h2]
    rw [hf]
    have q2 : (c.toList == [105]) = true := by rw [ht, h2]; decide
    clear ht h1 h2 hf
    go_enter Tryz.func93, Tryz.ntmps93
    go_wp2
    go_ret
    exact ⟨⟨_, rfl, opR_const (fun args w => enters_of Tryz.func107 (by kernel_rfl) rfl args w) (fun v x w h => op_i v x w h)⟩, rfl⟩
  have q2 : (c.toList == [105]) = false := by rw [ht]; simpa using h2
  by_cases h3 : c.data.toList = [118]
  · have hf : operandF c.data.toList = some (fun x => (decL x.2.length, [])) := by unfold operandF; rw [if_neg h1, if_neg h2, if_pos h3]
    rw [hf]
    have q3 : (c.toList == [118]) = true := by rw [ht, h3]; decide
    clear ht h1 h2 h3 hf
    go_enter Tryz.func93, Tryz.ntmps93
    go_wp2
    go_ret
    exact ⟨⟨_, rfl, opR_const (fun args w => enters_of Tryz.func109 (by kernel_rfl) rfl args w) (fun v x w h => op_v v x w h)⟩, rfl⟩
  have q3 : (c.toList == [118]) = false := by rw [ht]; simpa using h3
  by_cases h4 : c.data.toList = [119]
  · have hf : operandF c.data.toList = some (fun x => (decL (shortL x.2).length, [])) := by unfold operandF; rw [if_neg h1, if_neg h2, if_neg h3, if_pos h4]
    rw [hf]
    have q4 : (c.toList == [119]) = true := by rw [ht, h4]; decide
    clear ht h1 h2 h3 h4 hf
    go_enter Tryz.func93, Tryz.ntmps93
    go_wp2
    go_ret
    exact ⟨⟨_, rfl, opR_const (fun args w => enters_of Tryz.func111 (by kernel_rfl) rfl args w) (fun v x w h => op_w v x w h)⟩, rfl⟩
  have q4 : (c.toList == [119]) = false := by rw [ht]; simpa using h4
  by_cases h5 : c.data.toList = [102]
  · have hf : operandF c.data.toList = some (fun x => (plainL x.2, [])) := by unfold operandF; rw [if_neg h1, if_neg h2, if_neg h3, if_neg h4, if_pos h5]
    rw [hf]
    have q5 : (c.toList == [102]) = true := by rw [ht, h5]; decide
    clear ht h1 h2 h3 h4 h5 hf
    go_enter Tryz.func93, Tryz.ntmps93
    go_wp2
    go_ret
    exact ⟨⟨_, rfl, opR_const (fun args w => enters_of Tryz.func113 (by kernel_rfl) rfl args w) (fun v x w h => op_f v x w h)⟩, rfl⟩
  have q5 : (c.toList == [102]) = false := by rw [ht]; simpa using h5
  by_cases h6 : c.data.toList = [116]
  · have hf : operandF c.data.toList = some (fun x => (plainL (shortL x.2), [])) := by unfold operandF; rw [if_neg h1, if_neg h2, if_neg h3, if_neg h4, if_neg h5, if_pos h6]
    rw [hf]
    have q6 : (c.toList == [116]) = true := by rw [ht, h6]; decide
    clear ht h1 h2 h3 h4 h5 h6 hf
    go_enter Tryz.func93, Tryz.ntmps93
    go_wp2
    go_ret
    exact ⟨⟨_, rfl, opR_const (fun args w => enters_of Tryz.func114 (by kernel_rfl) rfl args w) (fun v x w h => op_t v x w h)⟩, rfl⟩
  have q6 : (c.toList == [116]) = false := by rw [ht]; simpa using h6
  have hf : operandF c.data.toList = none := by unfold operandF; rw [if_neg h1, if_neg h2, if_neg h3, if_neg h4, if_neg h5, if_neg h6]
  rw [hf]
  clear ht h1 h2 h3 h4 h5 h6 hf
  go_enter Tryz.func93, Tryz.ntmps93
  go_wp2
  go_ret
  exact ⟨rfl, rfl⟩

theorem cell3 {W : World} {q : Nat} {p : Addr} {v u0 u1 u2 : Value} (h : W.cell? p = some v) (hp : p.block ≠ q) : (((W.setCell ⟨q, 0, none⟩ u0).setCell ⟨q, 1, none⟩ u1).setCell ⟨q, 2, none⟩ u2).cell? p = some v := by
  refine (World.cell?_of_block ?_).trans h
  rw [Below.heap_setCell _ _ _ _ hp, Below.heap_setCell _ _ _ _ hp, Below.heap_setCell _ _ _ _ hp]

set_option maxHeartbeats 1000000 in
/-- a remainder of what an operand takes -/
theorem rel1_any (nv : Value) (x : Dg) (pw pm : Nat) (wv : Value) (m : Nat) (F : Dg → Dg) (lo hi : Nat) (w : World) (hn : NumV w nv x) (hm : m ≤ 1000000000) (hm0 : 0 < m) (cw : w.cell? ⟨pw, 0, none⟩ = some wv) (cm : w.cell? ⟨pm, 0, none⟩ = some (.int .i64 m)) (hw : OpR lo hi w wv F) (hhi : hi ≤ w.heap.size) :
    Calls Tryz.prog 95 #[nv, .pointer (some ⟨pw, 0, none⟩), .pointer (some ⟨pm, 0, none⟩)] w (NumPost' (modF F m x) w) := by
  have HN := Lib.hid hn
  obtain ⟨b, g, cap, n', k', rfl⟩ := hn.form
  obtain ⟨hb0, hr0⟩ := res_world w (.cells #[.bool b, .slice (some ⟨g, 0, none⟩) n' cap, .int .i64 k'] 65)
  have F0 : ∃ W, W = (w.alloc (.cells #[.bool b, .slice (some ⟨g, 0, none⟩) n' cap, .int .i64 k'] 65)).alloc (.cells #[.bool false, .slice none 0 0, .int .i64 0] 65) ∧ W.cell? ⟨w.heap.size, 0, none⟩ = some (.bool b) ∧ W.cell? ⟨w.heap.size, 1, none⟩ = some (.slice (some ⟨g, 0, none⟩) n' cap) ∧ W.cell? ⟨w.heap.size, 2, none⟩ = some (.int .i64 k') :=
    ⟨_, rfl, by go_simp, by go_simp, by go_simp⟩
  obtain ⟨W, hW, d0, d1, d2⟩ := F0
  rw [← hW] at hb0 hr0
  have ew := (hb0.cell (p := ⟨pw, 0, none⟩) (World.block_lt_of_cell? w _ cw)).trans cw
  have em := (hb0.cell (p := ⟨pm, 0, none⟩) (World.block_lt_of_cell? w _ cm)).trans cm
  obtain ⟨K0, cp, rfl, hent, hcall⟩ := hw.keep (keep_below hb0 hhi hhi) (Nat.le_refl _) (Nat.le_refl _)
  have HC := Lib.hid (hcall W.drew (show KeepR lo hi W W.drew from keep_refl (Nat.le_trans hhi hb0.size)) _ x (HN.out.below hb0.drew))
  have hpw := World.block_lt_of_cell? w _ cw
  have hpm := World.block_lt_of_cell? w _ cm
  dsimp only at hpw hpm
  clear hcall hn cw cm
  go_enter Tryz.func95, Tryz.ntmps95
  go_wp2_with fail
  rw [← hW]
  clear hW
  obtain ⟨B, hB⟩ : ∃ B, B = w.heap.size := ⟨_, rfl⟩
  rw [← hB] at d0 d1 d2 hr0 ⊢
  have HB := Lib.hid hB
  clear hB
  have hS0 : W.drew.cell? ⟨B, 0, none⟩ = some (.bool b) ∧ W.drew.cell? ⟨B, 1, none⟩ = some (.slice (some ⟨g, 0, none⟩) n' cap) ∧ W.drew.cell? ⟨B, 2, none⟩ = some (.int .i64 k') ∧ W.drew.cell? ⟨pw, 0, none⟩ = some (.func (.func K0) #[] cp) ∧ W.drew.cell? ⟨pm, 0, none⟩ = some (.int .i64 m) := ⟨d0, d1, d2, ew, em⟩
  refine wp_region_takes (fun W' : World => W'.cell? ⟨B, 0, none⟩ = some (.bool b) ∧ W'.cell? ⟨B, 1, none⟩ = some (.slice (some ⟨g, 0, none⟩) n' cap) ∧ W'.cell? ⟨B, 2, none⟩ = some (.int .i64 k') ∧ W'.cell? ⟨pw, 0, none⟩ = some (.func (.func K0) #[] cp) ∧ W'.cell? ⟨pm, 0, none⟩ = some (.int .i64 m))
    [0, 1, 3] 3 (by intro _ _ d _ _ h; cases d <;> exact h) (by kernel_rfl) (by kernel_rfl) hS0 ?_
  (iterate 3 (first | (refine takes_yes (v := ?_) rfl (by rfl) ?_ ?_; rotate_left; (focus ((intro w' hS'; (try dsimp only at hS'); go_simp; try (with_reducible rfl)); done)); (try simp only [Act.put, List.setIfInBounds_toArray, List.set_cons_zero, List.set_cons_succ])) | (refine takes_no rfl (by rfl) ?_; (try simp only [Act.put, List.setIfInBounds_toArray, List.set_cons_zero, List.set_cons_succ]))))
  refine takes_nil ?_
  refine wpAnyH_only 2 (by kernel_rfl) rfl (fun K hK => ?_)
  go_simp
  refine HC.out.mono ?_
  rintro e w1 ⟨⟨v1, rfl, hn1⟩, hb1⟩
  have hlt : ∀ {p : Addr} {u : Value}, W.cell? p = some u → w1.cell? p = some u := fun {p u} h => (hb1.cell (World.block_lt_of_cell? W p h)).trans h
  have hS1 : w1.cell? ⟨B, 0, none⟩ = some (.bool b) ∧ w1.cell? ⟨B, 1, none⟩ = some (.slice (some ⟨g, 0, none⟩) n' cap) ∧ w1.cell? ⟨B, 2, none⟩ = some (.int .i64 k') ∧ w1.cell? ⟨pw, 0, none⟩ = some (.func (.func K0) #[] cp) ∧ w1.cell? ⟨pm, 0, none⟩ = some (.int .i64 m) := ⟨hlt d0, hlt d1, hlt d2, hlt ew, hlt em⟩
  have hr1 := (show ResC W.drew (B + 1) from ⟨hr0.c0, hr0.c1, hr0.c2, hr0.z0, hr0.z1, hr0.z2, hr0.lt⟩).below hb1
  have hbb1 : Below w.heap.size w w1 := hb0.drew.trans (hb1.mono hb0.size)
  refine hK.out _ _ hS1 (fun _ => ?_)
  clear hK K hS0 hlt d0 d1 d2 ew em
  have HM := Lib.hid (mod_any v1 (F x) m w1 hn1 hm hm0)
  obtain ⟨b1, g1, cap1, n1, k1, rfl⟩ := hn1.form
  clear hn1
  refine wpAnyH_only 4 (by kernel_rfl) rfl (fun K hK => ?_)
  go_simp
  refine HM.out.mono ?_
  rintro e w2 ⟨⟨v2, rfl, hn2⟩, hb2⟩
  have hlt : ∀ {p : Addr} {u : Value}, w1.cell? p = some u → w2.cell? p = some u := fun {p u} h => (hb2.cell (World.block_lt_of_cell? w1 p h)).trans h
  have hS2 : w2.cell? ⟨B, 0, none⟩ = some (.bool b) ∧ w2.cell? ⟨B, 1, none⟩ = some (.slice (some ⟨g, 0, none⟩) n' cap) ∧ w2.cell? ⟨B, 2, none⟩ = some (.int .i64 k') ∧ w2.cell? ⟨pw, 0, none⟩ = some (.func (.func K0) #[] cp) ∧ w2.cell? ⟨pm, 0, none⟩ = some (.int .i64 m) := ⟨hlt hS1.1, hlt hS1.2.1, hlt hS1.2.2.1, hlt hS1.2.2.2.1, hlt hS1.2.2.2.2⟩
  have hr2 := hr1.below hb2
  have hbb2 : Below w.heap.size w w2 := hbb1.trans (hb2.mono hbb1.size)
  refine hK.out _ _ hS2 (fun _ => ?_)
  clear hK K hlt hS1 hr1
  have HN2 := Lib.hid hn2
  obtain ⟨b2, g2, cap2, n2, k2, rfl⟩ := hn2.form
  clear hn2
  have c0 := hr2.c0
  have c1 := hr2.c1
  have c2 := hr2.c2
  have z0 := hr2.z0
  have z1 := hr2.z1
  have z2 := hr2.z2
  refine wpAnyH_only 5 (by kernel_rfl) rfl (fun K hK => ?_)
  go_simp
  have hB1 := HB.out
  have e0 := cell3 (u0 := .bool b2) (u1 := .slice (some ⟨g2, 0, none⟩) n2 cap2) (u2 := .int .i64 k2) hS2.1 (show B ≠ B + 1 by omega)
  have e1 := cell3 (u0 := .bool b2) (u1 := .slice (some ⟨g2, 0, none⟩) n2 cap2) (u2 := .int .i64 k2) hS2.2.1 (show B ≠ B + 1 by omega)
  have e2 := cell3 (u0 := .bool b2) (u1 := .slice (some ⟨g2, 0, none⟩) n2 cap2) (u2 := .int .i64 k2) hS2.2.2.1 (show B ≠ B + 1 by omega)
  have e3 := cell3 (u0 := .bool b2) (u1 := .slice (some ⟨g2, 0, none⟩) n2 cap2) (u2 := .int .i64 k2) hS2.2.2.2.1 (show pw ≠ B + 1 by omega)
  have e4 := cell3 (u0 := .bool b2) (u1 := .slice (some ⟨g2, 0, none⟩) n2 cap2) (u2 := .int .i64 k2) hS2.2.2.2.2 (show pm ≠ B + 1 by omega)
  refine hK.out _ _ ⟨e0, e1, e2, e3, e4⟩ (fun _ => ?_)
  clear hK K e0 e1 e2 e3 e4
  refine wpAnyH_done (by kernel_rfl) ?_ _
  go_wp2
  refine bodyPost_ret (v := .agg #[.bool b2, .slice (some ⟨g2, 0, none⟩) n2 cap2, .int .i64 k2]) ?_ rfl ?_
  · simp [results, Tryz.results95, go_sem, c0, c1, c2]
  exact num_store (w := w) HN2.out hr2 (by omega) hbb2

set_option maxHeartbeats 1000000 in
/-- the test of a relation -/
theorem rel2_any (nv : Value) (x : Dg) (pi po pn : Nat) (iv ov : Value) (nt : Bool) (T : Tst) (F : Dg → Dg) (lo hi : Nat) (w : World) (hn : NumV w nv x) (ci : w.cell? ⟨pi, 0, none⟩ = some iv) (co : w.cell? ⟨po, 0, none⟩ = some ov) (cn : w.cell? ⟨pn, 0, none⟩ = some (.bool nt)) (hI : TestR lo hi w iv T) (hO : OpR lo hi w ov F) (hhi : hi ≤ w.heap.size) :
    Calls Tryz.prog 98 #[nv, .pointer (some ⟨pi, 0, none⟩), .pointer (some ⟨po, 0, none⟩), .pointer (some ⟨pn, 0, none⟩)] w fun e w' => e = .returned (.bool (T (F x) != nt)) ∧ Below w.heap.size w w' := by
  have HN := Lib.hid hn
  obtain ⟨b, g, cap, n', k', rfl⟩ := hn.form
  have F0 : ∃ W, W = w.alloc (.cells #[.bool b, .slice (some ⟨g, 0, none⟩) n' cap, .int .i64 k'] 65) ∧ Below w.heap.size w W ∧ W.cell? ⟨w.heap.size, 0, none⟩ = some (.bool b) ∧ W.cell? ⟨w.heap.size, 1, none⟩ = some (.slice (some ⟨g, 0, none⟩) n' cap) ∧ W.cell? ⟨w.heap.size, 2, none⟩ = some (.int .i64 k') :=
    ⟨_, rfl, (Below.refl _ _).alloc (Nat.le_refl _) _, by go_simp, by go_simp, by go_simp⟩
  obtain ⟨W, hW, hb0, d0, d1, d2⟩ := F0
  have ei := (hb0.cell (p := ⟨pi, 0, none⟩) (World.block_lt_of_cell? w _ ci)).trans ci
  have eo := (hb0.cell (p := ⟨po, 0, none⟩) (World.block_lt_of_cell? w _ co)).trans co
  have en := (hb0.cell (p := ⟨pn, 0, none⟩) (World.block_lt_of_cell? w _ cn)).trans cn
  obtain ⟨K0, cp, rfl, hent, hcall⟩ := hO.keep (keep_below hb0 hhi hhi) (Nat.le_refl _) (Nat.le_refl _)
  have HC := Lib.hid (hcall W.drew (show KeepR lo hi W W.drew from keep_refl (Nat.le_trans hhi hb0.size)) _ x (HN.out.below hb0.drew))
  obtain ⟨K1, cp1, rfl, hent1, hcall1⟩ := hI.keep (keep_below hb0 hhi hhi) (Nat.le_refl _) (Nat.le_refl _)
  have HC1 := Lib.hid hcall1
  clear hcall hcall1 hn ci co cn
  go_enter Tryz.func98, Tryz.ntmps98
  go_wp2_with fail
  rw [← hW]
  clear hW
  obtain ⟨B, hB⟩ : ∃ B, B = w.heap.size := ⟨_, rfl⟩
  rw [← hB] at d0 d1 d2 ⊢
  have HB := Lib.hid hB
  clear hB
  have hS0 : W.drew.cell? ⟨B, 0, none⟩ = some (.bool b) ∧ W.drew.cell? ⟨B, 1, none⟩ = some (.slice (some ⟨g, 0, none⟩) n' cap) ∧ W.drew.cell? ⟨B, 2, none⟩ = some (.int .i64 k') ∧ W.drew.cell? ⟨pi, 0, none⟩ = some (.func (.func K1) #[] cp1) ∧ W.drew.cell? ⟨po, 0, none⟩ = some (.func (.func K0) #[] cp) ∧ W.drew.cell? ⟨pn, 0, none⟩ = some (.bool nt) := ⟨d0, d1, d2, ei, eo, en⟩
  refine wp_region_takes (fun W' : World => W'.cell? ⟨B, 0, none⟩ = some (.bool b) ∧ W'.cell? ⟨B, 1, none⟩ = some (.slice (some ⟨g, 0, none⟩) n' cap) ∧ W'.cell? ⟨B, 2, none⟩ = some (.int .i64 k') ∧ W'.cell? ⟨pi, 0, none⟩ = some (.func (.func K1) #[] cp1) ∧ W'.cell? ⟨po, 0, none⟩ = some (.func (.func K0) #[] cp) ∧ W'.cell? ⟨pn, 0, none⟩ = some (.bool nt))
    [0, 1, 2, 5] 4 (by intro _ _ d _ _ h; cases d <;> exact h) (by kernel_rfl) (by kernel_rfl) hS0 ?_
  (iterate 4 (first | (refine takes_yes (v := ?_) rfl (by rfl) ?_ ?_; rotate_left; (focus ((intro w' hS'; (try dsimp only at hS'); go_simp; try (with_reducible rfl)); done)); (try simp only [Act.put, List.setIfInBounds_toArray, List.set_cons_zero, List.set_cons_succ])) | (refine takes_no rfl (by rfl) ?_; (try simp only [Act.put, List.setIfInBounds_toArray, List.set_cons_zero, List.set_cons_succ]))))
  refine takes_nil ?_
  refine wpAnyH_only 3 (by kernel_rfl) rfl (fun K hK => ?_)
  go_simp
  refine HC.out.mono ?_
  rintro e w1 ⟨⟨v1, rfl, hn1⟩, hb1⟩
  have hlt : ∀ {p : Addr} {u : Value}, W.cell? p = some u → w1.cell? p = some u := fun {p u} h => (hb1.cell (World.block_lt_of_cell? W p h)).trans h
  have hS1 : w1.cell? ⟨B, 0, none⟩ = some (.bool b) ∧ w1.cell? ⟨B, 1, none⟩ = some (.slice (some ⟨g, 0, none⟩) n' cap) ∧ w1.cell? ⟨B, 2, none⟩ = some (.int .i64 k') ∧ w1.cell? ⟨pi, 0, none⟩ = some (.func (.func K1) #[] cp1) ∧ w1.cell? ⟨po, 0, none⟩ = some (.func (.func K0) #[] cp) ∧ w1.cell? ⟨pn, 0, none⟩ = some (.bool nt) := ⟨hlt d0, hlt d1, hlt d2, hlt ei, hlt eo, hlt en⟩
  have hbb1 : Below w.heap.size w w1 := hb0.drew.trans (hb1.mono hb0.size)
  have hhW : hi ≤ W.heap.size := Nat.le_trans hhi hb0.size
  have hk1 : KeepR lo hi W w1 := keep_below (w := W.drew) hb1 hhW hhW
  refine hK.out _ _ hS1 (fun _ => ?_)
  clear hK K hS0 hlt d0 d1 d2 ei eo en
  have HI := Lib.hid (HC1.out w1 hk1 v1 (F x) hn1)
  obtain ⟨b1, g1, cap1, n1, k1, rfl⟩ := hn1.form
  clear hn1
  refine wpAnyH_only 4 (by kernel_rfl) rfl (fun K hK => ?_)
  go_simp
  refine HI.out.mono ?_
  rintro e w2 ⟨rfl, hb2⟩
  have hlt : ∀ {p : Addr} {u : Value}, w1.cell? p = some u → w2.cell? p = some u := fun {p u} h => (hb2.cell (World.block_lt_of_cell? w1 p h)).trans h
  have hS2 : w2.cell? ⟨B, 0, none⟩ = some (.bool b) ∧ w2.cell? ⟨B, 1, none⟩ = some (.slice (some ⟨g, 0, none⟩) n' cap) ∧ w2.cell? ⟨B, 2, none⟩ = some (.int .i64 k') ∧ w2.cell? ⟨pi, 0, none⟩ = some (.func (.func K1) #[] cp1) ∧ w2.cell? ⟨po, 0, none⟩ = some (.func (.func K0) #[] cp) ∧ w2.cell? ⟨pn, 0, none⟩ = some (.bool nt) := ⟨hlt hS1.1, hlt hS1.2.1, hlt hS1.2.2.1, hlt hS1.2.2.2.1, hlt hS1.2.2.2.2.1, hlt hS1.2.2.2.2.2⟩
  have hbb2 : Below w.heap.size w w2 := hbb1.trans (hb2.mono hbb1.size)
  refine hK.out _ _ hS2 (fun _ => ?_)
  clear hK K hlt hS1
  obtain ⟨r, hr⟩ : ∃ r, T (F x) = r := ⟨_, rfl⟩
  rw [hr]
  have HR := Lib.hid hr
  clear HI hr
  refine wpAnyH_more [6, 7] 0 rfl (by intro _ _ d _ _ h; cases d <;> exact h) (by kernel_rfl) (by kernel_rfl) hS2 ?_
  (iterate 2 (first | (refine takes_yes (v := ?_) rfl (by rfl) ?_ ?_; rotate_left; (focus ((intro w' hS'; (try dsimp only at hS'); go_simp; try (with_reducible rfl)); done)); (try simp only [Act.put, List.setIfInBounds_toArray, List.set_cons_zero, List.set_cons_succ])) | (refine takes_no rfl (by rfl) ?_; (try simp only [Act.put, List.setIfInBounds_toArray, List.set_cons_zero, List.set_cons_succ]))))
  refine takes_nil ?_
  refine wpAnyH_done (by kernel_rfl) ?_ _
  go_wp2
  go_ret
  exact ⟨by rw [HR.out]; rfl, hbb2⟩
end Go.Proofs.YtpepgmccbkkaaaaGreatDoor

/- plural's parser: a byte's class; the parser in memory; 'is'. -/
namespace Go.Proofs.YtpepgmccbkkaaaaGreatDoor
open Go Go.RowKit
set_option maxRecDepth 10000

set_option maxHeartbeats 1000000 in
theorem class_any (c : UInt8) (w : World) : Calls Tryz.prog 87 #[.int .u8 c.toNat] w fun e w' => e = .returned (.int .i64 (classL c)) ∧ w = w' := by
  have hlt := c.toNat_lt
  obtain ⟨n, hn⟩ : ∃ n, n = c.toNat := ⟨_, rfl⟩
  obtain ⟨r, hr⟩ : ∃ r, classL c = r := ⟨_, rfl⟩
  rw [hr]
  unfold classL at hr
  rw [← hn] at hlt hr ⊢
  by_cases h1 : 97 ≤ n ∧ n ≤ 122
  · rw [if_pos h1] at hr
    subst hr
    have a1 : decide ((97 : Int) ≤ (n : Int)) = true := by simp; omega
    have a2 : decide ((n : Int) ≤ (122 : Int)) = true := by simp; omega
    clear hn
    go_enter Tryz.func87, Tryz.ntmps87
    go_wp2
    all_goals (first | (exfalso; omega) | (go_ret; exact ⟨rfl, rfl⟩))
  · rw [if_neg h1] at hr
    by_cases h2 : 48 ≤ n ∧ n ≤ 57
    · rw [if_pos h2] at hr
      subst hr
      clear hn
      go_enter Tryz.func87, Tryz.ntmps87
      go_wp2
      all_goals (first | (exfalso; omega) | (go_ret; exact ⟨rfl, rfl⟩))
    · rw [if_neg h2] at hr
      by_cases h3 : n = 32
      · rw [if_pos h3] at hr
        subst hr
        subst h3
        clear hn
        go_enter Tryz.func87, Tryz.ntmps87
        go_wp2
        all_goals (first | (exfalso; omega) | (go_ret; exact ⟨rfl, rfl⟩))
      · rw [if_neg h3] at hr
        subst hr
        have a3 : ((n : Int) == 32) = false := by simp; omega
        clear hn
        go_enter Tryz.func87, Tryz.ntmps87
        go_wp2
        all_goals (first | (exfalso; omega) | (go_ret; exact ⟨rfl, rfl⟩))

/-- all that was there is as it was, but for block p -/
structure But (p : Nat) (w w' : World) : Prop where
  os : w'.os = w.os
  tape : w'.tape = w.tape
  output : w'.output = w.output
  size : w.heap.size ≤ w'.heap.size
  block : ∀ k, k < w.heap.size → k ≠ p → w'.heap[k]? = w.heap[k]?

theorem But.refl (p : Nat) (w : World) : But p w w := ⟨rfl, rfl, rfl, Nat.le_refl _, fun _ _ _ => rfl⟩
theorem But.trans {p : Nat} {a b c : World} (h : But p a b) (k : But p b c) : But p a c :=
  ⟨k.os.trans h.os, k.tape.trans h.tape, k.output.trans h.output, Nat.le_trans h.size k.size, fun i hi hp => (k.block i (Nat.lt_of_lt_of_le hi h.size) hp).trans (h.block i hi hp)⟩
theorem But.of {p : Nat} {w w' : World} (h : Below w.heap.size w w') : But p w w' := ⟨h.os, h.tape, h.output, h.size, fun k hk _ => h.block k hk⟩
theorem But.below {p : Nat} {w w' w'' : World} (h : But p w w') (hb : Below w'.heap.size w' w'') : But p w w'' := h.trans (But.of hb)
theorem But.set (p : Nat) (w : World) (j : Nat) (u : Value) : But p w (w.setCell ⟨p, j, none⟩ u) :=
  ⟨rfl, rfl, rfl, by simp [World.setCell], fun k _ hp => Below.heap_setCell _ _ _ _ hp⟩
theorem But.drew {p : Nat} {w w' : World} (h : But p w w') : But p w w'.drew := ⟨h.os, h.tape, h.output, h.size, h.block⟩
theorem But.cell {p : Nat} {w w' : World} (h : But p w w') {a : Addr} {v : Value} (hc : w.cell? a = some v) (ha : a.block ≠ p) : w'.cell? a = some v :=
  (World.cell?_of_block (h.block a.block (World.block_lt_of_cell? w a hc) ha)).trans hc
theorem But.keep {p lo hi : Nat} {w w' : World} (h : But p w w') (hp : p < lo) (hi' : hi ≤ w.heap.size) : KeepR lo hi w w' :=
  ⟨Nat.le_trans hi' h.size, fun k h1 h2 => h.block k (by omega) (by omega)⟩
theorem But.low {p lo : Nat} {w w' : World} (h : But p w w') (hlo : lo ≤ p) (h2 : lo ≤ w.heap.size) : Below lo w w' := ⟨h.os, h.tape, h.output, h.size, fun k hk => h.block k (by omega) (by omega)⟩

/-- a block of texts -/
def StrB (w : World) (k : Nat) : Prop := ∃ cs fr, w.heap[k]? = some (.cells cs 9 fr)

theorem StrB.of {w w' : World} {k : Nat} (h : StrB w k) (he : w'.heap[k]? = w.heap[k]?) : StrB w' k := by
  obtain ⟨cs, fr, h⟩ := h
  exact ⟨cs, fr, he.trans h⟩

/-- a parser at block p: the words that are left -/
def PAt (w : World) (p : Nat) (ws : List Wd) : Prop :=
  ∃ a cap, w.cell? ⟨p, 0, none⟩ = some (.slice a ws.length cap) ∧ w.frozen? ⟨p, 0, none⟩ = false ∧ ws.length ≤ cap ∧ cap ≤ maxLen ∧ ∀ j (h : j < ws.length), ∃ b, a = some b ∧ (b.block ≠ p ∧ StrB w b.block) ∧ w.cell? (b.add j) = some (strv ws[j])

theorem PAt.lt {w : World} {p : Nat} {ws : List Wd} (h : PAt w p ws) : p < w.heap.size := by
  obtain ⟨a, cap, hc, _⟩ := h
  exact World.block_lt_of_cell? w _ hc

theorem PAt.below {w w' : World} {p : Nat} {ws : List Wd} (h : PAt w p ws) (hb : Below w.heap.size w w') : PAt w' p ws := by
  have hlt := h.lt
  obtain ⟨a, cap, hc, hf, h1, h2, h3⟩ := h
  refine ⟨a, cap, (hb.cell hlt).trans hc, (hb.frozen hlt).trans hf, h1, h2, fun j hj => ?_⟩
  obtain ⟨b, e1, e2, e3⟩ := h3 j hj
  have hl := World.block_lt_of_cell? w _ e3
  rw [addr_add] at hl
  exact ⟨b, e1, ⟨e2.1, e2.2.of (hb.block _ hl)⟩, (hb.cell (World.block_lt_of_cell? w _ e3)).trans e3⟩

/-- the first word is passed -/
theorem PAt.pass {w : World} {p cap : Nat} {b : Addr} {x : Wd} {t : List Wd} (hf : w.frozen? ⟨p, 0, none⟩ = false) (hc : w.cell? ⟨p, 0, none⟩ = some (.slice (some b) (t.length + 1) cap)) (h1 : t.length + 1 ≤ cap) (h2 : cap ≤ maxLen) (hb : b.block ≠ p ∧ StrB w b.block) (hw : ∀ j (h : j < (x :: t).length), w.cell? (b.add j) = some (strv (x :: t)[j])) :
    PAt (w.setCell ⟨p, 0, none⟩ (.slice (some (b.add 1)) t.length (cap - 1))) p t := by
  refine ⟨some (b.add 1), cap - 1, by rw [World.cell?_setCell_same (h := hc)], by simpa using hf, by omega, by omega, fun j hj => ⟨b.add 1, rfl, by rw [addr_add]; exact ⟨hb.1, hb.2.of (Below.heap_setCell _ _ _ _ hb.1)⟩, ?_⟩⟩
  have := hw (j + 1) (by simp; omega)
  rw [add_add, Nat.add_comm 1 j, World.cell?_setCell_other (h := fun e => hb.1 (by rw [← addr_add b (j + 1), ← e]))]
  simpa using this

theorem PAt.last {w : World} {p cap : Nat} {b : Addr} (hf : w.frozen? ⟨p, 0, none⟩ = false) {n : Nat} (hc : w.cell? ⟨p, 0, none⟩ = some (.slice (some b) n cap)) :
    PAt (w.setCell ⟨p, 0, none⟩ (.slice (some b) 0 0)) p [] :=
  ⟨some b, 0, by rw [World.cell?_setCell_same (h := hc)]; rfl, by simpa using hf, Nat.le_refl _, Nat.zero_le _, fun j hj => absurd hj (Nat.not_lt_zero j)⟩

/-- one of these words stands next -/
def anyW (ms : List Wd) (ws : List Wd) : Bool := ms.any (fun m => isW m ws)

def IsPost (p : Nat) (ms ws : List Wd) (w : World) (e : Ending) (w' : World) : Prop :=
  e = .returned (.bool (anyW ms ws)) ∧ PAt w' p (if anyW ms ws then ws.tail else ws) ∧ But p w w' ∧ w'.heap.size = w.heap.size

theorem anyW_of {ms ws : List Wd} {k : Nat} (h : k < ms.length) (hT : isW ms[k] ws = true) : anyW ms ws = true := List.any_eq_true.2 ⟨ms[k], List.getElem_mem h, hT⟩
theorem anyW_snoc {ms ws : List Wd} {k : Nat} (h : k < ms.length) (h0 : anyW (ms.take k) ws = false) (hT : isW ms[k] ws = false) : anyW (ms.take (k + 1)) ws = false := by
  unfold anyW at *
  rw [List.take_succ_eq_append_getElem h, List.any_append, h0]
  simp [hT]

set_option maxHeartbeats 2000000 in
theorem is_any (p : Nat) (ms ws : List Wd) (v : Value) (w : World) (hp : PAt w p ws) (hm : StrsAt w v ms) (hl : ms.length ≤ 1000) :
    Calls Tryz.prog 88 #[.pointer (some ⟨p, 0, none⟩), v] w (IsPost p ms ws w) := by
  have HP := Lib.hid hp
  obtain ⟨a, cap, hc, hf, h1, h2, h3⟩ := hp
  obtain ⟨a2, cap2, rfl, m1, m2, m3, m4⟩ := hm
  have HM := Lib.hid m4
  have H3 := Lib.hid h3
  clear m4 h3
  have hmx : cap ≤ 9223372036854775807 := by unfold maxLen at h2; omega
  go_enter Tryz.func88, Tryz.ntmps88
  go_wp2
  go_loop [9] (fun i => ∃ k : Nat, k ≤ ms.length ∧ i = .int .i64 k ∧ anyW (ms.take k) ws = false) (fun i => ms.length - (intOf i).toNat)
  case atStart => exact ⟨0, Nat.zero_le _, rfl, rfl⟩
  case round =>
    obtain ⟨k, hk, rfl, hz⟩ := hrel
    have HZ := Lib.hid hz
    clear hz
    by_cases hlt : k < ms.length
    · obtain ⟨b2, rfl, hc2⟩ := HM.out k hlt
      obtain hws | ⟨x, t, hws⟩ : ws = [] ∨ ∃ x t, ws = x :: t := by
        cases ws with
        | nil => exact .inl rfl
        | cons x t => exact .inr ⟨x, t, rfl⟩
      · have hq : isW ms[k] ws = false := by rw [hws]; rfl
        have HF := Lib.hid (anyW_snoc hlt HZ.out hq)
        rw [hws] at hc
        clear hq hws
        go_wp2
        exact ⟨⟨k + 1, by omega, by go_num, HF.out⟩, by simp [intOf]; omega⟩
      · obtain ⟨b, rfl, hb, hx⟩ := H3.out 0 (by rw [hws]; simp)
        have hx' : w.cell? b = some (strv x) := by
          have : (b.add 0) = b := by simp [Addr.add]
          rw [this] at hx
          rw [hx]
          simp [hws]
        have hiw := isW_cons ms[k] x t
        have hlen : ws.length = t.length + 1 := by rw [hws]; rfl
        rw [hlen] at hc h1
        clear hx
        cases hq : (x == ms[k])
        · have HF := Lib.hid (anyW_snoc hlt HZ.out (by rw [hws, hiw, hq]))
          have HW := Lib.hid hws
          clear hiw hws hlen
          go_wp2
          exact ⟨⟨k + 1, by omega, by go_num, HF.out⟩, by simp [intOf]; omega⟩
        · have HF := Lib.hid (anyW_of (ws := ws) hlt (by rw [hws, hiw, hq]))
          have HW := Lib.hid hws
          clear hiw hws hlen
          by_cases hc1 : cap = 1
          · have ht : t = [] := List.eq_nil_of_length_eq_zero (by omega)
            subst ht
            subst hc1
            go_wp2
            go_ret
            refine ⟨by rw [HF.out]; rfl, ?_, But.set p w 0 _, by simp [World.setCell]⟩
            rw [if_pos HF.out, HW.out]
            exact PAt.last hf hc
          · have hne : ¬ (cap : Int) = 1 := by omega
            go_wp2
            go_ret
            refine ⟨by rw [HF.out]; rfl, ?_, But.set p w 0 _, by simp [World.setCell]⟩
            rw [if_pos HF.out, HW.out]
            refine PAt.pass hf hc h1 h2 hb (x := x) (fun j hj => ?_)
            obtain ⟨b', e1, _, e3⟩ := H3.out j (by rw [HW.out]; exact hj)
            cases e1
            rw [e3]
            simp [HW.out]
    · obtain rfl : k = ms.length := by omega
      have hz := HZ.out
      rw [List.take_length] at hz
      have HF := Lib.hid hz
      clear hz HZ
      go_wp2
      go_ret
      refine ⟨by rw [HF.out]; rfl, ?_, But.refl _ _, rfl⟩
      rw [HF.out]
      exact HP.out
end Go.Proofs.YtpepgmccbkkaaaaGreatDoor

/- plural's parser: numbers. -/
namespace Go.Proofs.YtpepgmccbkkaaaaGreatDoor
open Go Go.RowKit
set_option maxRecDepth 10000

/-- what strconv's errors lie in; block p is none of them -/
structure RT (p : Nat) (w : World) : Prop where
  s : ∃ t v, w.cell? ⟨5, 0, none⟩ = some (.iface t v)
  r : ∃ t v, w.cell? ⟨6, 0, none⟩ = some (.iface t v)
  ns : 5 ≠ p
  nr : 6 ≠ p

theorem RT.but {p : Nat} {w w' : World} (h : RT p w) (hb : But p w w') : RT p w' := by
  obtain ⟨⟨t, v, hs⟩, ⟨t2, v2, hr⟩, h1, h2⟩ := h
  exact ⟨⟨t, v, hb.cell hs h1⟩, ⟨t2, v2, hb.cell hr h2⟩, h1, h2⟩

/-- a rule's word -/
structure WOk (x : Wd) : Prop where
  ne : x ≠ []
  len : x.length ≤ 1000
  form : x.all isDig = true ∨ isDig (x.headD 0) = false

theorem decFrom_dig : ∀ (l : List UInt8) (acc : Nat), l.all isDig = true → Lib.decFrom acc l = some (l.foldl (fun v c => 10 * v + (c.toNat - 48)) acc)
  | [], _, _ => rfl
  | c :: t, acc, h => by
    simp only [List.all_cons, Bool.and_eq_true] at h
    have hc := (isDig_iff c).1 h.1
    rw [Lib.decFrom, Lib.digitVal, if_pos (by omega)]
    dsimp only
    rw [decFrom_dig t _ h.2, List.foldl_cons, Nat.mul_comm acc 10]

theorem atoi_dig {l : List UInt8} (h : l.all isDig = true) (hn : l ≠ []) : Lib.atoi l = some (valL l : Int) := by
  cases l with
  | nil => exact absurd rfl hn
  | cons c t =>
    have hd := h
    simp only [List.all_cons, Bool.and_eq_true] at hd
    have hc := (isDig_iff c).1 hd.1
    have h45 : (c == 45) = false := by
      rw [beq_eq_false_iff_ne]
      rintro rfl
      exact absurd hc.1 (by decide)
    have h43 : (c == 43) = false := by
      rw [beq_eq_false_iff_ne]
      rintro rfl
      exact absurd hc.1 (by decide)
    rw [Lib.atoi, h45, h43]
    simp only [Bool.false_eq_true, if_false, Lib.decNat]
    rw [if_neg (by simp), decFrom_dig _ 0 h]
    rfl

theorem below_bytesWorld (w : World) (e : TypeId) (t : ByteArray) : Below w.heap.size w (Lib.bytesWorld w e t) := Lib.bytesWorld_below _ _ _

/-- strconv.Atoi of any text -/
theorem atoi_any (p : Nat) (s : ByteArray) (w : World) (hs : s.size ≤ 1000) (hT : RT p w) :
    Calls Tryz.prog 115 #[.string s] w fun e w' => (∃ v ev, e = .returned (.tuple #[.int .i64 v, ev]) ∧ (ev = .nilIface ∨ ∃ N, ev = .iface 211 (.pointer (some N)))) ∧ Below w.heap.size w w' := by
  obtain ⟨⟨t, v, hS⟩, ⟨t2, v2, hR⟩, _, _⟩ := hT
  cases h : Lib.atoiAll s.data.toList with
  | ok n =>
    refine (Tryz.strconv_Atoi_ok s (by omega) n h w).mono ?_
    rintro e w' ⟨rfl, rfl | ⟨t, rfl⟩⟩
    · exact ⟨⟨_, _, rfl, .inl rfl⟩, Below.refl _ _⟩
    · exact ⟨⟨_, _, rfl, .inl rfl⟩, below_bytesWorld _ _ _⟩
  | range =>
    refine (Tryz.strconv_Atoi_range s (by omega) h _ w hR (.inr ⟨_, _, rfl⟩)).mono ?_
    rintro e w' ⟨N, rfl, _, _, hb⟩
    exact ⟨⟨_, _, rfl, .inr ⟨_, rfl⟩⟩, hb⟩
  | _ =>
    refine (Tryz.strconv_Atoi_none s (by omega) (fun v q => by rw [h] at q; cases q) (fun q => by rw [h] at q; cases q) _ w hS (.inr ⟨_, _, rfl⟩)).mono ?_
    rintro e w' ⟨N, rfl, _, _, hb⟩
    exact ⟨⟨_, _, rfl, .inr ⟨_, rfl⟩⟩, hb⟩

theorem atoi_num (s : ByteArray) (w : World) (hs : s.size ≤ 9) (hd : s.data.toList.all isDig = true) (hn : s.data.toList ≠ []) :
    Calls Tryz.prog 115 #[.string s] w fun e w' => e = .returned (.tuple #[.int .i64 (valL s.data.toList), .nilIface]) ∧ Below w.heap.size w w' := by
  refine (Tryz.strconv_Atoi s (valL s.data.toList) (by omega) (atoi_dig hd hn) w).mono ?_
  rintro e w' ⟨rfl, t, rfl⟩
  exact ⟨rfl, below_bytesWorld _ _ _⟩

/-- what is thrown where a rule is none -/
abbrev thrown : Ending := .panicked [{ v := .iface 151 (.agg #[]), recovered := false }]

def NumQ (p : Nat) (r : Option (Nat × List Wd)) (w : World) (e : Ending) (w' : World) : Prop :=
  (match r with | none => e = thrown | some (v, t) => e = .returned (.int .i64 v) ∧ PAt w' p t) ∧ But p w w'

theorem figB_of {x : Wd} (hd : x.all isDig = true) (hn : x ≠ []) : figB x = (decide (x.length ≤ 9) && (decide (x.length = 1) || decide (x.headD 0 ≠ 48))) := by
  unfold figB numeralsL
  rw [hd]
  cases x with
  | nil => exact absurd rfl hn
  | cons c t => simp

theorem class_dig (c : UInt8) : (classL c = 2) ↔ isDig c = true := by
  rw [isDig_iff]
  unfold classL
  split
  · constructor <;> intro h <;> omega
  split
  · constructor <;> intro h <;> omega
  split
  · constructor <;> intro h <;> omega
  · constructor <;> intro h <;> omega

set_option maxHeartbeats 1000000 in
theorem number_nil (p : Nat) (w : World) (hp : PAt w p []) : Calls Tryz.prog 94 #[.pointer (some ⟨p, 0, none⟩)] w (NumQ p none w) := by
  obtain ⟨a, cap, hc, hf, h1, h2, h3⟩ := hp
  clear h3
  go_enter Tryz.func94, Tryz.ntmps94
  go_wp2
  exact ⟨rfl, rfl, But.refl _ _⟩

theorem PAt.step {w : World} {p cap : Nat} {b : Addr} {x : Wd} {t : List Wd} (h : PAt w p (x :: t)) (hc : w.cell? ⟨p, 0, none⟩ = some (.slice (some b) (t.length + 1) cap)) :
    PAt (w.setCell ⟨p, 0, none⟩ (.slice (some (b.add 1)) t.length (cap - 1))) p t ∧ (t = [] → PAt (w.setCell ⟨p, 0, none⟩ (.slice (some b) 0 0)) p t) := by
  obtain ⟨a, cap', hc', hf, h1, h2, h3⟩ := h
  rw [hc] at hc'
  cases hc'
  obtain ⟨b', e1, e2, _⟩ := h3 0 (by simp)
  cases e1
  refine ⟨PAt.pass hf hc (by simpa using h1) h2 e2 (x := x) (fun j hj => ?_), fun ht => ?_⟩
  · obtain ⟨b', e1, _, e3⟩ := h3 j hj
    cases e1
    exact e3
  · subst ht
    exact PAt.last hf hc

theorem figB_short {x : Wd} (hd : x.all isDig = true) (hn : x ≠ []) (h9 : x.length ≤ 9) : figB x = (decide (x.length = 1) || decide (x.headD 0 ≠ 48)) := by
  rw [figB_of hd hn, decide_eq_true h9, Bool.true_and]

theorem index_head (c : UInt8) (t : List UInt8) (h : 0 < (ByteArray.mk (c :: t).toArray).size) : (ByteArray.mk (c :: t).toArray)[0] = c := by
  simp [ByteArray.getElem_eq_getElem_data]

set_option maxHeartbeats 2000000 in
theorem number_cons (p : Nat) (c : UInt8) (x' : List UInt8) (t : List Wd) (w : World) (hp : PAt w p ((c :: x') :: t)) (hx : WOk (c :: x')) (hT : RT p w) :
    Calls Tryz.prog 94 #[.pointer (some ⟨p, 0, none⟩)] w (NumQ p (pNum ((c :: x') :: t)) w) := by
  have HP := Lib.hid hp
  have HX := Lib.hid hx
  have HT := Lib.hid hT
  have hlt := hp.lt
  obtain ⟨a, cap, hc, hf, h1, h2, h3⟩ := hp
  obtain ⟨b, rfl, hb, hx0⟩ := h3 0 (by simp)
  have hx' : w.cell? b = some (strv (c :: x')) := by
    have : (b.add 0) = b := by simp [Addr.add]
    rw [this] at hx0
    exact hx0
  have hmx : cap ≤ 9223372036854775807 := by unfold maxLen at h2; omega
  have hlen : ((c :: x') :: t).length = t.length + 1 := rfl
  rw [hlen] at hc h1
  obtain ⟨r, hr⟩ : ∃ r, pNum ((c :: x') :: t) = r := ⟨_, rfl⟩
  rw [hr]
  have HR := Lib.hid hr
  obtain ⟨s, hs⟩ : ∃ s : ByteArray, s = ⟨(c :: x').toArray⟩ := ⟨_, rfl⟩
  have hs0 : 0 < s.size := by rw [hs, size_mk]; simp
  have hsz : s.size = x'.length + 1 := by rw [hs, size_mk]; rfl
  have hg : s[0] = c := by subst hs; exact index_head c x' hs0
  have hxl := hx.len
  have hsl : s.size ≤ 1000 := by rw [hsz]; simpa using hxl
  have hsd : s.data.toList = c :: x' := by rw [hs]
  have hcs : w.cell? b = some (.string s) := by rw [hx', hs]
  clear hx0 h3 hr hx' hx hT hs
  have HG := Lib.hid hg
  have HSD := Lib.hid hsd
  have HSZ := Lib.hid hsz
  by_cases hd : isDig c = true
  · have hall : (c :: x').all isDig = true := by
      rcases HX.out.form with h | h
      · exact h
      · exact absurd hd (by simpa using h)
    have hcl : classL c = 2 := (class_dig c).2 hd
    have hcl' : ((classL c : Int) != 2) = false := by rw [hcl]; decide
    have hcw := fun W => class_any c W
    have hfb := figB_of hall (by simp)
    by_cases h9 : s.size ≤ 9
    · have hlen9 : (c :: x').length ≤ 9 := by simp; omega
      rw [decide_eq_true hlen9, Bool.true_and] at hfb
      have h9' : decide ((9 : Int) < (s.size : Int)) = false := by simp; omega
      have HA := Lib.hid (atoi_num s w h9 (by rw [hsd]; exact hall) (by rw [hsd]; simp))
      by_cases hz : 1 < s.size ∧ c = 48
      · have hr0 : r = none := by
          rw [← HR.out]
          have : figB (c :: x') = false := by
            rw [hfb]
            simp [hz.2]
            intro e
            rw [e] at hsz
            simp at hsz
            omega
          simp [pNum, this]
        subst hr0
        have e48 : ((s[0].toNat : Int) == 48) = true := by rw [hg, hz.2]; decide
        have e1 : decide ((1 : Int) < (s.size : Int)) = true := by simp; omega
        rw [← hg] at hcw hcl'
        have HCW := Lib.hid hcw
        clear hcl hcw hg hsd hd hall hfb hz hsz
        go_enter Tryz.func94, Tryz.ntmps94
        go_wp2_with fail
        refine HA.out.mono ?_
        rintro e w1 ⟨rfl, hb1⟩
        go_wp2_with fail
        refine (HCW.out _).mono ?_
        rintro e w2 ⟨rfl, rfl⟩
        go_wp2
        exact ⟨rfl, rfl, But.of hb1⟩
      · have hfig : figB (c :: x') = true := by
          rw [hfb]
          by_cases h1s : x'.length = 0
          · simp [h1s]
          · have : ¬ c = 48 := fun e => hz ⟨by omega, e⟩
            simp [this]
        have hr0 : r = some (valL (c :: x'), t) := by
          rw [← HR.out]
          simp [pNum, hfig]
        subst hr0
        have HSV := Lib.hid hsd
        rw [← hg] at hcw hcl'
        have HCW := Lib.hid hcw
        have hpass : ∀ W, Below w.heap.size w W → W.cell? ⟨p, 0, none⟩ = some (.slice (some b) (t.length + 1) cap) ∧ W.frozen? ⟨p, 0, none⟩ = false := fun W hW => ⟨(hW.cell hlt).trans hc, (hW.frozen hlt).trans hf⟩
        have HPS := Lib.hid hpass
        have hzz : ¬ (1 < s.size ∧ s[0] = 48) := by rw [hg]; exact hz
        have HTL := Lib.hid hlen
        clear hcl hcw hg hsd hd hall hfb hz hfig hpass hsz hlen
        by_cases hc1 : cap = 1
        · have ht0 : t = [] := List.eq_nil_of_length_eq_zero (by omega)
          subst ht0
          subst hc1
          by_cases hs1 : 1 < s.size
          · have e48 : ((s[0].toNat : Int) == 48) = false := by
              rw [show ((48 : Int)) = (((48 : UInt8).toNat : Nat) : Int) from rfl, toNat_beq]
              simpa using fun e => hzz ⟨hs1, e⟩
            have e1 : decide ((1 : Int) < (s.size : Int)) = true := by simp; omega
            clear hzz
            go_enter Tryz.func94, Tryz.ntmps94
            go_wp2_with fail
            refine HA.out.mono ?_
            rintro e w1 ⟨rfl, hb1⟩
            obtain ⟨j0, j1⟩ := HPS.out w1 hb1
            have HP1 := Lib.hid (HP.out.below hb1)
            go_wp2_with fail
            refine (HCW.out _).mono ?_
            rintro e w2 ⟨rfl, rfl⟩
            go_wp2
            go_ret
            exact ⟨⟨by rw [HSV.out]; rfl, (HP1.out.step j0).2 rfl⟩, (But.of hb1).trans (But.set p _ 0 _)⟩
          · have e1 : decide ((1 : Int) < (s.size : Int)) = false := by simp; omega
            clear hzz
            go_enter Tryz.func94, Tryz.ntmps94
            go_wp2_with fail
            refine HA.out.mono ?_
            rintro e w1 ⟨rfl, hb1⟩
            obtain ⟨j0, j1⟩ := HPS.out w1 hb1
            have HP1 := Lib.hid (HP.out.below hb1)
            go_wp2_with fail
            refine (HCW.out _).mono ?_
            rintro e w2 ⟨rfl, rfl⟩
            go_wp2
            go_ret
            exact ⟨⟨by rw [HSV.out]; rfl, (HP1.out.step j0).2 rfl⟩, (But.of hb1).trans (But.set p _ 0 _)⟩
        · have hne : ¬ (cap : Int) = 1 := by omega
          by_cases hs1 : 1 < s.size
          · have e48 : ((s[0].toNat : Int) == 48) = false := by
              rw [show ((48 : Int)) = (((48 : UInt8).toNat : Nat) : Int) from rfl, toNat_beq]
              simpa using fun e => hzz ⟨hs1, e⟩
            have e1 : decide ((1 : Int) < (s.size : Int)) = true := by simp; omega
            clear hzz
            go_enter Tryz.func94, Tryz.ntmps94
            go_wp2_with fail
            refine HA.out.mono ?_
            rintro e w1 ⟨rfl, hb1⟩
            obtain ⟨j0, j1⟩ := HPS.out w1 hb1
            have HP1 := Lib.hid (HP.out.below hb1)
            go_wp2_with fail
            refine (HCW.out _).mono ?_
            rintro e w2 ⟨rfl, rfl⟩
            go_wp2
            go_ret
            exact ⟨⟨by rw [HSV.out]; rfl, (HP1.out.step j0).1⟩, (But.of hb1).trans (But.set p _ 0 _)⟩
          · have e1 : decide ((1 : Int) < (s.size : Int)) = false := by simp; omega
            clear hzz
            go_enter Tryz.func94, Tryz.ntmps94
            go_wp2_with fail
            refine HA.out.mono ?_
            rintro e w1 ⟨rfl, hb1⟩
            obtain ⟨j0, j1⟩ := HPS.out w1 hb1
            have HP1 := Lib.hid (HP.out.below hb1)
            go_wp2_with fail
            refine (HCW.out _).mono ?_
            rintro e w2 ⟨rfl, rfl⟩
            go_wp2
            go_ret
            exact ⟨⟨by rw [HSV.out]; rfl, (HP1.out.step j0).1⟩, (But.of hb1).trans (But.set p _ 0 _)⟩
    · have hr0 : r = none := by
        rw [← HR.out]
        have : figB (c :: x') = false := by
          rw [hfb, decide_eq_false (by simp; omega), Bool.false_and]
        simp [pNum, this]
      subst hr0
      have h9' : decide ((9 : Int) < (s.size : Int)) = true := by simp; omega
      have HA := Lib.hid (atoi_any p s w hsl HT.out)
      rw [← hg] at hcw hcl'
      have HCW := Lib.hid hcw
      clear hcl hcw hg hsd hd hall hfb hsz
      go_enter Tryz.func94, Tryz.ntmps94
      go_wp2_with fail
      refine HA.out.mono ?_
      rintro e w1 ⟨⟨v, ev, rfl, hev⟩, hb1⟩
      rcases hev with rfl | ⟨N, rfl⟩
      · go_wp2_with fail
        refine (HCW.out _).mono ?_
        rintro e w2 ⟨rfl, rfl⟩
        go_wp2
        exact ⟨rfl, rfl, But.of hb1⟩
      · go_wp2
        exact ⟨rfl, rfl, But.of hb1⟩
  · have hr0 : r = none := by
      rw [← HR.out]
      have : figB (c :: x') = false := by
        unfold figB numeralsL
        simp [hd]
      simp [pNum, this]
    subst hr0
    have hcl : ¬ (classL c = 2) := fun e => hd ((class_dig c).1 e)
    have hcl' : ((classL c : Int) != 2) = true := by simp; omega
    have HA := Lib.hid (atoi_any p s w hsl HT.out)
    have hcw := fun W => class_any c W
    rw [← hg] at hcw hcl'
    have HCW := Lib.hid hcw
    clear hcl hcw hg hsd hd hsz
    go_enter Tryz.func94, Tryz.ntmps94
    go_wp2_with fail
    refine HA.out.mono ?_
    rintro e w1 ⟨⟨v, ev, rfl, hev⟩, hb1⟩
    rcases hev with rfl | ⟨N, rfl⟩
    · go_wp2_with fail
      refine (HCW.out _).mono ?_
      rintro e w2 ⟨rfl, rfl⟩
      go_wp2
      exact ⟨rfl, rfl, But.of hb1⟩
    · go_wp2
      exact ⟨rfl, rfl, But.of hb1⟩

theorem number_any (p : Nat) (ws : List Wd) (w : World) (hp : PAt w p ws) (hx : ∀ x ∈ ws, WOk x) (hT : RT p w) :
    Calls Tryz.prog 94 #[.pointer (some ⟨p, 0, none⟩)] w (NumQ p (pNum ws) w) := by
  match ws, hp, hx with
  | [], hp, _ => exact number_nil p w hp
  | x :: t, hp, hx =>
    have h := hx x (by simp)
    cases x with
    | nil => exact absurd rfl h.ne
    | cons c x' => exact number_cons p c x' t w hp h hT

theorem pNum_small {ws t : List Wd} {v : Nat} (h : pNum ws = some (v, t)) : v ≤ 1000000000 ∧ (∀ x ∈ t, x ∈ ws) ∧ t.length + 1 = ws.length := by
  cases ws with
  | nil => cases h
  | cons w u =>
    by_cases hf : figB w = true
    · simp only [pNum, hf, if_true, Option.some.injEq, Prod.mk.injEq] at h
      obtain ⟨rfl, rfl⟩ := h
      have h1 := (Fig.of hf)
      have h2 := valL_lt w h1.1.dig
      have h3 : 10 ^ w.length ≤ 10 ^ 9 := Nat.pow_le_pow_right (by decide) h1.2
      exact ⟨by omega, fun x hx => by simp [hx], by simp⟩
    · simp [pNum, hf] at h
end Go.Proofs.YtpepgmccbkkaaaaGreatDoor
