import Derived.Test.YtdelpialeajajaaGreatDoorJC29

/- syntax.writer: a message in the one form. -/
namespace Go.Proofs.YtdelpialeajajaaGreatDoor
open Go Go.RowKit
set_option maxRecDepth 10000

theorem as_text_text (t : Wd) (w : World) : (Instr.typeAssert (.iface 204 (strv t)) 82 204 true).run Tryz.prog w = .ok (.tuple #[strv t, .bool true]) w := by rfl
theorem as_hash_text  (w : World) : (Instr.typeAssert (.iface 207 (.agg #[])) 82 204 true).run Tryz.prog w = .ok (.tuple #[.string ⟨#[]⟩, .bool false]) w := by rfl
theorem as_hash_hash  (w : World) : (Instr.typeAssert (.iface 207 (.agg #[])) 82 207 true).run Tryz.prog w = .ok (.tuple #[.agg #[], .bool true]) w := by rfl
theorem as_put_text (b0 : Nat) (w : World) : (Instr.typeAssert (.iface 110 (.pointer (some ⟨b0, 0, none⟩))) 82 204 true).run Tryz.prog w = .ok (.tuple #[.string ⟨#[]⟩, .bool false]) w := by rfl
theorem as_put_hash (b0 : Nat) (w : World) : (Instr.typeAssert (.iface 110 (.pointer (some ⟨b0, 0, none⟩))) 82 207 true).run Tryz.prog w = .ok (.tuple #[.agg #[], .bool false]) w := by rfl
theorem as_num_text (b0 : Nat) (w : World) : (Instr.typeAssert (.iface 113 (.pointer (some ⟨b0, 0, none⟩))) 82 204 true).run Tryz.prog w = .ok (.tuple #[.string ⟨#[]⟩, .bool false]) w := by rfl
theorem as_num_hash (b0 : Nat) (w : World) : (Instr.typeAssert (.iface 113 (.pointer (some ⟨b0, 0, none⟩))) 82 207 true).run Tryz.prog w = .ok (.tuple #[.agg #[], .bool false]) w := by rfl
theorem as_br_text (b0 : Nat) (w : World) : (Instr.typeAssert (.iface 115 (.pointer (some ⟨b0, 0, none⟩))) 82 204 true).run Tryz.prog w = .ok (.tuple #[.string ⟨#[]⟩, .bool false]) w := by rfl
theorem as_br_hash (b0 : Nat) (w : World) : (Instr.typeAssert (.iface 115 (.pointer (some ⟨b0, 0, none⟩))) 82 207 true).run Tryz.prog w = .ok (.tuple #[.agg #[], .bool false]) w := by rfl

/-- the forms' words -/
def WordsAt (w : World) : Prop := ∀ j, j < 3 → w.cell? ⟨4, j, none⟩ = some (strv (formW j))
set_option maxHeartbeats 1000000 in
theorem form_string (f : Nat) (hf : f < 3) (w : World) (h : WordsAt w) : Calls Tryz.prog 90 #[.int .i64 (f : Nat)] w fun e w' => e = .returned (strv (formW f)) ∧ w = w' := by
  have hc := h f hf
  have h1 : (f : Int) < 3 := by omega
  go_enter Tryz.func90, Tryz.ntmps90
  go_wp2
  go_ret
  exact ⟨rfl, rfl⟩
theorem grow_below (w : World) (os : Array Obj) : Below w.heap.size w (Sort.grow w os) :=
  ⟨rfl, rfl, rfl, by simp [Sort.grow], fun k hk => by unfold Sort.grow; simp only [Array.getElem?_append]; rw [if_pos hk]⟩
theorem itoa_any (u : Nat) (hu : u ≤ 9223372036854775807) (w : World) (h : Lib.TabIs Tryz.prog w "internal/strconv.uint64pow10" .u64 Lib.pow10Tab) :
    Calls Tryz.prog 91 #[.int .i64 (u : Nat)] w fun e w' => e = .returned (strv (Lib.decDigits u)) ∧ Below w.heap.size w w' := by
  refine (Tryz.strconv_Itoa (u : Int) (by omega) (by omega) w h).mono ?_
  rintro e w' ⟨rfl, k, os, rfl⟩
  refine ⟨by rw [Lib.itoa_nonneg], ?_⟩
  have h1 : Below w.heap.size w (w.drewN k) := below_drewN (Below.refl _ _) k
  have h2 := grow_below (w.drewN k) os
  exact h1.trans (h2.mono h1.size)
theorem OffW.lt {o : Wd} (h : OffW o) : offV o ≤ 999999999 := by
  have h1 : offV o = valL o := rfl
  have h2 := valL_lt o h.dig
  have h3 : 10 ^ o.length ≤ 10 ^ 9 := Nat.pow_le_pow_right (by omega) h.len
  have h4 : (10 : Nat) ^ 9 = 1000000000 := by decide
  omega
theorem wrT_ge (num : Bool) (t : Wd) : t.length ≤ (wrT num t).length := by
  have h : ∀ (n : Nat) (s : Wd), s.length ≤ n → s.length ≤ (wrG num n s).length := by
    intro n
    induction n with
    | zero => intro s hs; rw [wrG]; simpa using hs
    | succ n ih =>
      intro s hs
      rw [wrG]
      split
      · next h => rw [h]; exact Nat.le_refl _
      next hs0 =>
      have hp := List.length_pos_iff.2 hs0
      split
      · have := ih (s.drop 1) (by simp; omega)
        simp at this ⊢
        omega
      next ha =>
      have hl := List.length_pos_iff.2 ha
      have h1 := ih (s.drop (s.takeWhile (qB num)).length) (by simp; omega)
      have h2 : (s.takeWhile (qB num)).length ≤ (runQ (s.takeWhile (qB num))).length := by
        have h3 : ∀ a : Wd, a.length ≤ (dblL a).length := by
          intro a
          induction a with
          | nil => exact Nat.le_refl _
          | cons c t ih =>
            unfold dblL at ih ⊢
            rw [List.flatMap_cons, List.length_append, List.length_cons]
            have : 1 ≤ (if c = 39 then [39, 39] else [c] : Wd).length := by split <;> simp
            omega
        have h4 := h3 (s.takeWhile (qB num))
        unfold runQ
        split
        · simp; omega
        · exact h4
      simp at h1 ⊢
      omega
  exact h _ t (Nat.le_refl _)

/-- all that writing wants of a world -/
structure WEnv (lo hi B : Nat) (w0 W : World) : Prop where
  keep : KeepR lo hi w0 W
  hi : hi ≤ B
  mx : MaxAt B W
  words : 4 < B ∧ WordsAt W
  pow : 6 < B ∧ Lib.TabIs Tryz.prog W "internal/strconv.uint64pow10" .u64 Lib.pow10Tab
theorem pow_global : Tryz.prog.globalNamed "internal/strconv.uint64pow10" = some 6 := by kernel_rfl
theorem tab_below {B : Nat} {W W' : World} (h : Lib.TabIs Tryz.prog W "internal/strconv.uint64pow10" .u64 Lib.pow10Tab) (hb : Below B W W') (hB : 6 < B) : Lib.TabIs Tryz.prog W' "internal/strconv.uint64pow10" .u64 Lib.pow10Tab := by
  unfold Lib.TabIs World.var? at h ⊢
  rw [pow_global] at h ⊢
  simp only [Option.bind_some] at h ⊢
  rw [hb.block _ hB]
  exact h
theorem WEnv.go {lo hi B b : Nat} {w0 W W' : World} (h : WEnv lo hi B w0 W) (k : WF B b W W') : WEnv lo hi B w0 W' where
  keep := ⟨Nat.le_trans h.keep.1 k.below.size, fun i h1 h2 => (k.below.block i (Nat.lt_of_lt_of_le h2 h.hi)).trans (h.keep.2 i h1 h2)⟩
  hi := h.hi
  mx := h.mx.keep k
  words := ⟨h.words.1, fun j hj => (k.below.cell (p := ⟨4, j, none⟩) h.words.1).trans (h.words.2 j hj)⟩
  pow := ⟨h.pow.1, tab_below h.pow.2 k.below h.pow.1⟩

def MsgW (lo hi B b : Nat) (w0 : World) (num : Bool) (f : Fo) : Prop := ∀ (l : Wd) (W : World) (a : Option Addr) (c : Nat) (vs : List Value), WrAt B b l W → WEnv lo hi B w0 W → RowC lo hi w0 a vs → NodesV lo hi w0 vs f → l.length + (wrF Lib.decDigits offV num f).length ≤ 100000000 →
  Calls Tryz.prog 59 #[.pointer (some ⟨b, 0, none⟩), .slice a f.len c, .bool num] W fun e w' => (∃ v, e = .returned v) ∧ WrAt B b (l ++ wrF Lib.decDigits offV num f) w' ∧ WF B b W w'
theorem laid_row (W : World) (cs : Array Value) (t : TypeId) : ∃ W1, W.alloc (.cells cs t) = W1 ∧ Below W.heap.size W W1 ∧ W1.heap[W.heap.size]? = some (.cells cs t (0, 0)) := ⟨_, rfl, (Below.refl _ _).alloc (Nat.le_refl _) _, heap_alloc_new _ _⟩

set_option maxHeartbeats 16000000 in
theorem msg_write {lo hi B b : Nat} {w0 : World} (num : Bool) (f : Fo) (hm : f.isMsg = true) (hw : f.wf 2000000 = true) (hs : f.slim) (hl : f.len ≤ 2000000)
    (ih : ∀ (m : Fo) (nm : Bool), SizeOf.sizeOf m < SizeOf.sizeOf f → m.isMsg = true → m.wf 2000000 = true → m.slim → m.len ≤ 2000000 → MsgW lo hi B b w0 nm m) : MsgW lo hi B b w0 num f := by
  intro l W a c vs hat henv hrow hnod hlen
  obtain ⟨L, hL⟩ : ∃ L, f.len = L := ⟨_, rfl⟩
  rw [hL]
  have hvl : vs.length = L := (NodesV.count f vs hnod hm).trans hL
  obtain ⟨F, hF⟩ : ∃ F, l ++ wrF Lib.decDigits offV num f = F := ⟨_, rfl⟩
  have hFl : F.length ≤ 100000000 := by rw [← hF, List.length_append]; exact hlen
  rw [hF]
  have HAT0 := Lib.hid hat
  have HENV0 := Lib.hid henv
  have HROW := Lib.hid hrow
  have HNOD := Lib.hid hnod
  have HM := Lib.hid hm
  have HW := Lib.hid hw
  have HS := Lib.hid hs
  have HF := Lib.hid hF
  have HFL := Lib.hid hFl
  have HIH := Lib.hid ih
  have HVL := Lib.hid hvl
  have HL := Lib.hid hL
  have hL2 : L ≤ 2000000 := by omega
  clear hat henv hrow hnod hm hw hs hF hFl ih hvl hl hL hlen
  go_enter Tryz.func59, Tryz.ntmps59
  go_wp2_with fail
  go_loopw [17] (fun iv wr => ∃ i us xs r acc, iv = .int .i64 (i : Nat) ∧ i ≤ L ∧ NodesV lo hi w0 xs r ∧ r.isMsg = true ∧ r.wf 2000000 = true ∧ r.slim ∧ us.length = i ∧ vs = us ++ xs ∧ i + r.len = L ∧ SizeOf.sizeOf r ≤ SizeOf.sizeOf f ∧ WrAt B b acc wr ∧ WF B b W wr ∧ acc ++ wrF Lib.decDigits offV num r = F) (fun iv _ => L - (intOf iv).toNat)
  case atStart => exact ⟨0, [], vs, f, l, rfl, Nat.zero_le _, HNOD.out, HM.out, HW.out, HS.out, rfl, rfl, by have := HL.out; omega, Nat.le_refl _, HAT0.out, WF.refl _ _ _, HF.out⟩
  case round =>
    obtain ⟨i, us, xs, r, acc, rfl, hiL, hnr, hmr, hwr, hsl, hus, hvs, hln, hsz, hat, hwf, heq⟩ := hrel
    have HN := Lib.hid hnr
    have HMR := Lib.hid hmr
    have HWR := Lib.hid hwr
    have HSL := Lib.hid hsl
    have HVS := Lib.hid hvs
    have HUS := Lib.hid hus
    have HAT := Lib.hid hat
    have HWF := Lib.hid hwf
    have HENV := Lib.hid (HENV0.out.go hwf)
    have HEQ := Lib.hid heq
    clear hnr hmr hwr hsl hvs hus hat hwf heq
    by_cases hlt : i < L
    · obtain ⟨x0, xt, hxs⟩ : ∃ x0 xt, xs = x0 :: xt := by
        cases xs with
        | nil => have h1 := HVL.out; rw [HVS.out] at h1; have := HUS.out; simp at h1; omega
        | cons a b => exact ⟨a, b, rfl⟩
      subst hxs
      obtain ⟨g, o, rfl, hg1, hg2, hcell⟩ := HROW.out i (by have := HVL.out; omega)
      have hx0 : vs[i]'(by have := HVL.out; omega) = x0 := by
        have h1 : vs[i]? = some x0 := by rw [HVS.out, ← HUS.out]; simp
        rw [List.getElem?_eq_getElem (by have := HVL.out; omega)] at h1
        exact Option.some.inj h1
      rw [hx0] at hcell
      have hc1 := keep_cell HENV.out.keep hcell hg1 hg2
      have k1 : (i : Int) < (L : Int) := by omega
      have k2 : decide ((i : Int) < (L : Int)) = true := by simp; omega
      have HSZ := Lib.hid hsz
      clear hcell hx0 hsz
      cases r with
      | nil =>
        have := HN.out
        cases this
      | leg k0 a0 m0 r0 => have := HMR.out; cases this
      | text t r =>
        obtain ⟨vt, he, hnr⟩ := HN.out
        cases he
        have e1 := as_text_text t
        have HNR := Lib.hid hnr
        clear hnr
        have HWR := Lib.hid (show r.wf 2000000 = true from HWR.out)
        have HMR := Lib.hid (show r.isMsg = true from HMR.out)
        have HSL := Lib.hid (show r.slim from HSL.out)
        have HLN := Lib.hid (show i + (r.len + 1) = L from hln)
        have HSZ := Lib.hid (show SizeOf.sizeOf r ≤ SizeOf.sizeOf f by have := HSZ.out; simp at this; omega)
        have HFE := Lib.hid (show acc ++ (wrT num t ++ wrF Lib.decDigits offV num r) = F from HEQ.out)
        have hlen : acc.length + (wrT num t).length ≤ 100000000 := by have h1 := congrArg List.length HFE.out; have h2 := HFL.out; simp only [List.length_append] at h1; omega
        have HTX := Lib.hid (wr_text B b acc t num wr HAT.out HENV.out.mx hlen (by have := wrT_ge num t; omega))
        clear hlen
        go_wp2_with fail
        refine HTX.out.mono ?_
        rintro e w2 ⟨⟨rv, rfl⟩, h1, h2⟩
        have HAT2 := Lib.hid h1
        have HWF2 := Lib.hid (HWF.out.trans h2)
        clear h1 h2
        go_wp2
        go_roundw
        case rel => exact ⟨i + 1, us ++ [(.iface 204 (strv t))], _, r, acc ++ wrT num t, by simp, by omega, HNR.out, HMR.out, HWR.out, HSL.out, by simp [HUS.out], by rw [HVS.out, List.append_assoc]; rfl, by have := HLN.out; omega, by have := HSZ.out; omega, HAT2.out, HWF2.out, by rw [List.append_assoc]; exact HFE.out⟩
        case measure => simp only [intOf]; omega
      | hash r =>
        obtain ⟨vt, he, hnr⟩ := HN.out
        cases he
        have e1 := as_hash_text
        have e2 := as_hash_hash
        have HNR := Lib.hid hnr
        clear hnr
        have HWR := Lib.hid (show r.wf 2000000 = true from HWR.out)
        have HMR := Lib.hid (show r.isMsg = true from HMR.out)
        have HSL := Lib.hid (show r.slim from HSL.out)
        have HLN := Lib.hid (show i + (r.len + 1) = L from hln)
        have HSZ := Lib.hid (show SizeOf.sizeOf r ≤ SizeOf.sizeOf f by have := HSZ.out; simp at this; omega)
        have HFE := Lib.hid (show acc ++ ([35] ++ wrF Lib.decDigits offV num r) = F from HEQ.out)
        go_wp2_with fail
        refine calls_gen ?_
        intro W4 hW4
        have hb4 : Below wr.heap.size wr W4 := by rw [hW4]; exact ((Below.refl _ _).alloc (Nat.le_refl _) _).alloc (by simp) _
        have HROW4 := Lib.hid (show TxtRow W4 (wr.heap.size + 1) [[35]] from ⟨9, (0, 0), by decide, by decide, by rw [hW4]; have q := heap_alloc_new (wr.alloc (.cells #[] 207)) (.cells #[strv [35]] 9); simpa using q⟩)
        have hat4 := HAT.out.later hb4
        have hsz4 := Nat.le_trans HAT.out.lt.2 (Nat.le_of_lt HAT.out.lt.1)
        have hwf4 := WF.later (b := b) hsz4 hb4
        clear hW4
        refine (wr_all B b (wr.heap.size + 1) (acc) [[35]] W4 hat4 HROW4.out (by have h1 := congrArg List.length HFE.out; have h2 := HFL.out; simp only [List.length_append, List.length_cons, List.length_nil] at h1; simp; omega) (by simp)).mono ?_
        rintro e w4 ⟨⟨rv4, rfl⟩, hw4, hf4⟩
        have HAT4 := Lib.hid (show WrAt B b (acc ++ [35]) w4 by simpa using hw4)
        have HFX4 := Lib.hid (hwf4.trans hf4)
        have HWF4 := Lib.hid (HWF.out.trans HFX4.out)
        have HENV4 := Lib.hid (HENV.out.go HFX4.out)
        clear hw4 hf4 hat4 hsz4 hwf4 hb4
        go_wp2
        go_roundw
        case rel => exact ⟨i + 1, us ++ [(.iface 207 (.agg #[]))], _, r, acc ++ [35], by simp, by omega, HNR.out, HMR.out, HWR.out, HSL.out, by simp [HUS.out], by rw [HVS.out, List.append_assoc]; rfl, by have := HLN.out; omega, by have := HSZ.out; omega, HAT4.out, HWF4.out, by rw [List.append_assoc]; exact HFE.out⟩
        case measure => simp only [intOf]; omega
      | put n a r =>
        obtain ⟨vt, b0, he, hb1, hb2, hc0, hc1', hnr⟩ := HN.out
        cases he
        have hh0 := keep_cell HENV.out.keep hc0 hb1 hb2
        have e1 := as_put_text b0
        have e2 := as_put_hash b0
        have e3 := as_put_put b0
        have HNR := Lib.hid hnr
        have hwq : (decide (n.length ≤ 4000001) && r.wf 2000000) = true := HWR.out
        simp only [Bool.and_eq_true, decide_eq_true_eq] at hwq
        have HWR := Lib.hid hwq.2
        have hsq : n.length ≤ 16 ∧ r.slim := HSL.out
        have HSL := Lib.hid hsq.2
        clear hnr hwq hsq hc0 hc1'
        have HMR := Lib.hid (show r.isMsg = true from HMR.out)
        have HLN := Lib.hid (show i + (r.len + 1) = L from hln)
        have HSZ := Lib.hid (show SizeOf.sizeOf r ≤ SizeOf.sizeOf f by have := HSZ.out; simp at this; omega)
        have HFE := Lib.hid (show acc ++ ((123 :: (n ++ [125])) ++ wrF Lib.decDigits offV num r) = F by rw [← HEQ.out, wrF]; simp)
        go_wp2_with fail
        refine calls_gen ?_
        intro W4 hW4
        have hb4 : Below wr.heap.size wr W4 := by rw [hW4]; exact (Below.refl _ _).alloc (Nat.le_refl _) _
        have HROW4 := Lib.hid (show TxtRow W4 wr.heap.size [[123], n, [125]] from ⟨9, (0, 0), by decide, by decide, by rw [hW4]; exact heap_alloc_new _ _⟩)
        have hat4 := HAT.out.later hb4
        have hsz4 := Nat.le_trans HAT.out.lt.2 (Nat.le_of_lt HAT.out.lt.1)
        have hwf4 := WF.later (b := b) hsz4 hb4
        clear hW4
        refine (wr_all B b wr.heap.size (acc) [[123], n, [125]] W4 hat4 HROW4.out (by have h1 := congrArg List.length HFE.out; have h2 := HFL.out; simp only [List.length_append, List.length_cons, List.length_nil] at h1; simp; omega) (by simp)).mono ?_
        rintro e w4 ⟨⟨rv4, rfl⟩, hw4, hf4⟩
        have HAT4 := Lib.hid (show WrAt B b (acc ++ (123 :: (n ++ [125]))) w4 by simpa using hw4)
        have HFX4 := Lib.hid (hwf4.trans hf4)
        have HWF4 := Lib.hid (HWF.out.trans HFX4.out)
        have HENV4 := Lib.hid (HENV.out.go HFX4.out)
        clear hw4 hf4 hat4 hsz4 hwf4 hb4
        clear hh0
        go_wp2
        go_roundw
        case rel => exact ⟨i + 1, us ++ [(.iface 110 (.pointer (some ⟨b0, 0, none⟩)))], _, r, acc ++ (123 :: (n ++ [125])), by simp, by omega, HNR.out, HMR.out, HWR.out, HSL.out, by simp [HUS.out], by rw [HVS.out, List.append_assoc]; rfl, by have := HLN.out; omega, by have := HSZ.out; omega, HAT4.out, HWF4.out, by rw [List.append_assoc]; exact HFE.out⟩
        case measure => simp only [intOf]; omega
      | num n a r =>
        obtain ⟨vt, b0, he, hb1, hb2, hc0, hc1', hnr⟩ := HN.out
        cases he
        have hh0 := keep_cell HENV.out.keep hc0 hb1 hb2
        have e1 := as_num_text b0
        have e2 := as_num_hash b0
        have e3 := as_num_put b0
        have e4 := as_num_num b0
        have HNR := Lib.hid hnr
        have hwq : (decide (n.length ≤ 4000001) && r.wf 2000000) = true := HWR.out
        simp only [Bool.and_eq_true, decide_eq_true_eq] at hwq
        have HWR := Lib.hid hwq.2
        have hsq : n.length ≤ 16 ∧ r.slim := HSL.out
        have HSL := Lib.hid hsq.2
        clear hnr hwq hsq hc0 hc1'
        have HMR := Lib.hid (show r.isMsg = true from HMR.out)
        have HLN := Lib.hid (show i + (r.len + 1) = L from hln)
        have HSZ := Lib.hid (show SizeOf.sizeOf r ≤ SizeOf.sizeOf f by have := HSZ.out; simp at this; omega)
        have HFE := Lib.hid (show acc ++ ((123 :: (n ++ [44, 32, 110, 117, 109, 98, 101, 114, 125])) ++ wrF Lib.decDigits offV num r) = F by rw [← HEQ.out, wrF]; simp)
        go_wp2_with fail
        refine calls_gen ?_
        intro W4 hW4
        have hb4 : Below wr.heap.size wr W4 := by rw [hW4]; exact (Below.refl _ _).alloc (Nat.le_refl _) _
        have HROW4 := Lib.hid (show TxtRow W4 wr.heap.size [[123], n, [44, 32, 110, 117, 109, 98, 101, 114, 125]] from ⟨9, (0, 0), by decide, by decide, by rw [hW4]; exact heap_alloc_new _ _⟩)
        have hat4 := HAT.out.later hb4
        have hsz4 := Nat.le_trans HAT.out.lt.2 (Nat.le_of_lt HAT.out.lt.1)
        have hwf4 := WF.later (b := b) hsz4 hb4
        clear hW4
        refine (wr_all B b wr.heap.size (acc) [[123], n, [44, 32, 110, 117, 109, 98, 101, 114, 125]] W4 hat4 HROW4.out (by have h1 := congrArg List.length HFE.out; have h2 := HFL.out; simp only [List.length_append, List.length_cons, List.length_nil] at h1; simp; omega) (by simp)).mono ?_
        rintro e w4 ⟨⟨rv4, rfl⟩, hw4, hf4⟩
        have HAT4 := Lib.hid (show WrAt B b (acc ++ (123 :: (n ++ [44, 32, 110, 117, 109, 98, 101, 114, 125]))) w4 by simpa using hw4)
        have HFX4 := Lib.hid (hwf4.trans hf4)
        have HWF4 := Lib.hid (HWF.out.trans HFX4.out)
        have HENV4 := Lib.hid (HENV.out.go HFX4.out)
        clear hw4 hf4 hat4 hsz4 hwf4 hb4
        clear hh0
        go_wp2
        go_roundw
        case rel => exact ⟨i + 1, us ++ [(.iface 113 (.pointer (some ⟨b0, 0, none⟩)))], _, r, acc ++ (123 :: (n ++ [44, 32, 110, 117, 109, 98, 101, 114, 125])), by simp, by omega, HNR.out, HMR.out, HWR.out, HSL.out, by simp [HUS.out], by rw [HVS.out, List.append_assoc]; rfl, by have := HLN.out; omega, by have := HSZ.out; omega, HAT4.out, HWF4.out, by rw [List.append_assoc]; exact HFE.out⟩
        case measure => simp only [intOf]; omega
      | br n a fo of cl bs r =>
        obtain ⟨vt, b0, ba, bc, ws, he, hb1, hb2, hc0, hc1', hc2, hc3, hc4, hc5, hrw, hbs, hnr⟩ := HN.out
        cases he
        have hlohi : lo ≤ b0 ∧ b0 < hi := ⟨hb1, hb2⟩
        have HLH := Lib.hid hlohi
        have hh0 := keep_cell HENV.out.keep hc0 hb1 hb2
        have hh2 := keep_cell HENV.out.keep hc2 hb1 hb2
        have e1 := as_br_text b0
        have e2 := as_br_hash b0
        have e3 := as_br_put b0
        have e4 := as_br_num b0
        have e5 := as_br_br b0
        have HNR := Lib.hid hnr
        have HBS := Lib.hid hbs
        have HRW := Lib.hid hrw
        have HC2 := Lib.hid hc2
        have HC3 := Lib.hid hc3
        have HC4 := Lib.hid hc4
        have hwq : (decide (n.length ≤ 4000001) && decide (fo < 3) && bs.isLegs && decide (bs.len ≤ 2000000) && bs.wf 2000000 && r.wf 2000000) = true := HWR.out
        simp only [Bool.and_eq_true, decide_eq_true_eq] at hwq
        obtain ⟨⟨⟨⟨⟨hnl, hfo⟩, hbl⟩, hbn⟩, hbw⟩, hrw2⟩ := hwq
        have hsq : n.length ≤ 16 ∧ fo < 3 ∧ OffW of ∧ bs.slim ∧ r.slim := HSL.out
        have HWR := Lib.hid hrw2
        have HBL := Lib.hid hbl
        have HBW := Lib.hid hbw
        have HOF := Lib.hid hsq.2.2.1
        have HBSL := Lib.hid hsq.2.2.2.1
        have HSL := Lib.hid hsq.2.2.2.2
        have HMR := Lib.hid (show r.isMsg = true from HMR.out)
        have HLN := Lib.hid (show i + (r.len + 1) = L from hln)
        have HSZ := Lib.hid (show SizeOf.sizeOf r ≤ SizeOf.sizeOf f ∧ SizeOf.sizeOf bs < SizeOf.sizeOf f by have := HSZ.out; simp at this; omega)
        obtain ⟨nb, hnb⟩ : ∃ x, decide (fo ≠ 0) = x := ⟨_, rfl⟩
        have hnb1 : ((fo : Int) != 0) = nb := by
          rw [← hnb]
          by_cases h0 : fo = 0
          · subst h0; rfl
          · rw [decide_eq_true h0, bne, beq_eq_false_iff_ne.2 (by omega)]; rfl
        have hnb2 : ((fo : Int) == 0) = !nb := by rw [← hnb1, bne, Bool.not_not]
        have HNB1 := Lib.hid hnb1
        have HNB2 := Lib.hid hnb2
        have HFE := Lib.hid (show acc ++ ((123 :: (n ++ ([44, 32] ++ (formW fo ++ [44])))) ++ ((if 0 < offV of then [32, 111, 102, 102, 115, 101, 116, 58] ++ Lib.decDigits (offV of) else []) ++ (wrF Lib.decDigits offV nb bs ++ 125 :: wrF Lib.decDigits offV num r))) = F by rw [← HEQ.out, wrF, hnb]; simp)
        have hfoI : (fo : Int) < 3 := by omega
        have hS0 : wr.drew.cell? ⟨b0, 0, none⟩ = some (strv n) ∧ wr.drew.cell? ⟨b0, 2, none⟩ = some (.int .i64 (fo : Nat)) := ⟨hh0, hh2⟩
        clear hc0 hc1' hc2 hc3 hc4 hc5 hrw hbs hnr hrw2 hbl hbw hsq hnb hnb1 hnb2 HEQ HN hnl
        go_wp2_with fail
        refine wp_region_takes (fun W' : World => W'.cell? ⟨b0, 0, none⟩ = some (strv n) ∧ W'.cell? ⟨b0, 2, none⟩ = some (.int .i64 (fo : Nat))) [0, 1, 2, 3, 4, 5, 6, 7, 8, 9] 3 (by intro _ _ d _ _ h; cases d <;> exact h) (by kernel_rfl) (by kernel_rfl) hS0 ?_
        (iterate 10 (first | (refine takes_yes (v := ?_) rfl (by rfl) ?_ ?_; rotate_left; (focus ((intro w' hS'; (try dsimp only at hS'); go_simp; try (with_reducible rfl)); done)); (try simp only [Act.put, List.setIfInBounds_toArray, List.set_cons_zero, List.set_cons_succ])) | (refine takes_no rfl (by rfl) ?_; (try simp only [Act.put, List.setIfInBounds_toArray, List.set_cons_zero, List.set_cons_succ]))))
        refine takes_nil ?_
        obtain ⟨wd, hwd⟩ : ∃ X, wr.drew = X := ⟨_, rfl⟩
        have HATD := Lib.hid (show WrAt B b acc wd by rw [← hwd]; exact HAT.out)
        have hwfd : WF B b wr wd := by rw [← hwd]; exact (WF.refl _ _ _).drew
        have HWFD := Lib.hid (HWF.out.trans hwfd)
        have HENVD := Lib.hid (HENV.out.go hwfd)
        rw [hwd] at hS0 ⊢
        clear hwd hwfd
        refine wpAnyH_only 10 (by kernel_rfl) rfl (fun K hK => ?_)
        go_simp
        refine (form_string fo hfo wd HENVD.out.words.2).mono ?_
        rintro e w' ⟨rfl, rfl⟩
        refine hK.out _ _ hS0 (fun _ => ?_)
        clear hK K
        refine wpAnyH_only 11 (by kernel_rfl) rfl (fun K hK => ?_)
        go_simp
        obtain ⟨W5, hW5, hb5, hr5⟩ := laid_row wd #[strv [123], strv n, strv [44, 32], strv (formW fo), strv [44]] 9
        rw [hW5]
        have hsz5 := Nat.le_trans HATD.out.lt.2 (Nat.le_of_lt HATD.out.lt.1)
        have hwf5 : WF B b wd W5 := WF.later (b := b) hsz5 hb5
        have HROW5 := Lib.hid (show TxtRow W5 wd.heap.size [[123], n, [44, 32], (formW fo), [44]] from ⟨9, (0, 0), by decide, by decide, hr5⟩)
        have hat5 := HATD.out.later hb5
        refine hK.out _ _ ⟨(hwf5.below.cell (p := ⟨b0, 0, none⟩) (Nat.lt_of_lt_of_le hb2 HENVD.out.hi)).trans hS0.1, (hwf5.below.cell (p := ⟨b0, 2, none⟩) (Nat.lt_of_lt_of_le hb2 HENVD.out.hi)).trans hS0.2⟩ (fun _ => ?_)
        clear hK K hW5 hr5
        refine wpAnyH_only 12 (by kernel_rfl) rfl (fun K hK => ?_)
        go_simp
        refine (wr_all B b wd.heap.size (acc) [[123], n, [44, 32], (formW fo), [44]] W5 hat5 HROW5.out (by have h1 := congrArg List.length HFE.out; have h2 := HFL.out; simp only [List.length_append, List.length_cons, List.length_nil] at h1; simp; omega) (by simp)).mono ?_
        rintro e w5 ⟨⟨rv5, rfl⟩, hw5, hf5⟩
        have HAT5 := Lib.hid (show WrAt B b (acc ++ (123 :: (n ++ ([44, 32] ++ (formW fo ++ [44]))))) w5 by simpa using hw5)
        have HFX5 := Lib.hid (hwf5.trans hf5)
        have HWF5 := Lib.hid (HWFD.out.trans HFX5.out)
        have HENV5 := Lib.hid (HENVD.out.go HFX5.out)
        refine hK.out _ _ ⟨(HFX5.out.below.cell (p := ⟨b0, 0, none⟩) (Nat.lt_of_lt_of_le hb2 HENVD.out.hi)).trans hS0.1, (HFX5.out.below.cell (p := ⟨b0, 2, none⟩) (Nat.lt_of_lt_of_le hb2 HENVD.out.hi)).trans hS0.2⟩ (fun _ => ?_)
        clear hK K hw5 hf5 hat5 hsz5 hwf5 hb5
        refine wpAnyH_done (by kernel_rfl) ?_ _
        have hh3 := keep_cell HENV5.out.keep HC3.out hb1 hb2
        have hov := HOF.out.lt
        obtain ⟨ov, hovn⟩ : ∃ x, offV of = x := ⟨_, rfl⟩
        rw [hovn] at hh3 hov
        have HFE := Lib.hid (hovn ▸ HFE.out)
        clear hh0 hh2 hS0 hovn
        go_upto_if 77 with fail
        go_cut [] (fun wc => WrAt B b (acc ++ (123 :: (n ++ ([44, 32] ++ (formW fo ++ [44])))) ++ (if 0 < ov then [32, 111, 102, 102, 115, 101, 116, 58] ++ Lib.decDigits ov else [])) wc ∧ WF B b W wc)
        case first =>
          by_cases h0 : 0 < ov
          · have j1 : decide ((0 : Int) < (ov : Int)) = true := by simp; omega
            have j1i : (0 : Int) < (ov : Int) := by omega
            have HIT := Lib.hid (itoa_any ov (by omega) w5 HENV5.out.pow.2)
            go_wp2_with fail
            refine HIT.out.mono ?_
            rintro e w6 ⟨rfl, hb6⟩
            have hsz6 := Nat.le_trans HAT5.out.lt.2 (Nat.le_of_lt HAT5.out.lt.1)
            have HAT6 := Lib.hid (HAT5.out.later hb6)
            have HWF6 := Lib.hid (HWF5.out.trans (WF.later (b := b) hsz6 hb6))
            have HENV6 := Lib.hid (HENV5.out.go (WF.later (b := b) hsz6 hb6))
            clear hb6 hsz6
            go_wp2_with fail
            refine calls_gen ?_
            intro W7 hW7
            have hb7 : Below w6.heap.size w6 W7 := by rw [hW7]; exact (Below.refl _ _).alloc (Nat.le_refl _) _
            have HROW7 := Lib.hid (show TxtRow W7 w6.heap.size [[32, 111, 102, 102, 115, 101, 116, 58], (Lib.decDigits ov)] from ⟨9, (0, 0), by decide, by decide, by rw [hW7]; exact heap_alloc_new _ _⟩)
            have hat7 := HAT6.out.later hb7
            have hsz7 := Nat.le_trans HAT6.out.lt.2 (Nat.le_of_lt HAT6.out.lt.1)
            have hwf7 := WF.later (b := b) hsz7 hb7
            clear hW7
            refine (wr_all B b w6.heap.size (acc ++ (123 :: (n ++ ([44, 32] ++ (formW fo ++ [44]))))) [[32, 111, 102, 102, 115, 101, 116, 58], (Lib.decDigits ov)] W7 hat7 HROW7.out (by have h1 := congrArg List.length HFE.out; have h2 := HFL.out; rw [if_pos h0] at h1; simp only [List.length_append, List.length_cons, List.length_nil] at h1; simp; omega) (by simp)).mono ?_
            rintro e w7 ⟨⟨rv7, rfl⟩, hw7, hf7⟩
            have HAT7 := Lib.hid (show WrAt B b (acc ++ (123 :: (n ++ ([44, 32] ++ (formW fo ++ [44])))) ++ ([32, 111, 102, 102, 115, 101, 116, 58] ++ Lib.decDigits ov)) w7 by simpa using hw7)
            have HFX7 := Lib.hid (hwf7.trans hf7)
            have HWF7 := Lib.hid (HWF6.out.trans HFX7.out)
            have HENV7 := Lib.hid (HENV6.out.go HFX7.out)
            clear hw7 hf7 hat7 hsz7 hwf7 hb7
            go_wp2
            go_meet
            case rel => exact ⟨by rw [if_pos h0]; exact HAT7.out, HWF7.out⟩
          · have h0' : ov = 0 := by omega
            subst h0'
            go_wp2
            go_meet
            case rel => exact ⟨by rw [if_neg (Nat.lt_irrefl 0), List.append_nil]; exact HAT5.out, HWF5.out⟩
        case rest =>
          obtain ⟨hatc, hwfc⟩ := hcut
          obtain ⟨acc3, hacc3⟩ : ∃ x, acc ++ (123 :: (n ++ ([44, 32] ++ (formW fo ++ [44])))) ++ (if 0 < ov then [32, 111, 102, 102, 115, 101, 116, 58] ++ Lib.decDigits ov else []) = x := ⟨_, rfl⟩
          rw [hacc3] at hatc
          have HFE := Lib.hid (show acc3 ++ (wrF Lib.decDigits offV nb bs ++ 125 :: wrF Lib.decDigits offV num r) = F by rw [← hacc3, ← HFE.out]; simp)
          have HATC := Lib.hid hatc
          have HWFC := Lib.hid hwfc
          have HENVC := Lib.hid (HENV0.out.go hwfc)
          clear hatc hwfc hacc3 hh3
          have hh4 := keep_cell HENVC.out.keep HC4.out hb1 hb2
          go_wp2_with fail
          go_loopw [91] (fun iv wq => ∃ i2 us2 xs2 r2 acc2, iv = .int .i64 (i2 : Nat) ∧ i2 ≤ bs.len ∧ NodesV lo hi w0 xs2 r2 ∧ r2.isLegs = true ∧ r2.wf 2000000 = true ∧ r2.slim ∧ us2.length = i2 * 3 ∧ ws = us2 ++ xs2 ∧ i2 + r2.len = bs.len ∧ SizeOf.sizeOf r2 ≤ SizeOf.sizeOf bs ∧ WrAt B b acc2 wq ∧ WF B b W wq ∧ acc2 ++ (wrF Lib.decDigits offV nb r2 ++ 125 :: wrF Lib.decDigits offV num r) = F) (fun iv _ => bs.len - (intOf iv).toNat)
          case atStart => exact ⟨0, [], ws, bs, acc3, rfl, Nat.zero_le _, HBS.out, HBL.out, HBW.out, HBSL.out, rfl, rfl, by omega, Nat.le_refl _, HATC.out, HWFC.out, HFE.out⟩
          case round =>
            obtain ⟨i2, us2, xs2, r2, acc2, rfl, hi2L, hnr2, hmr2, hwr2, hsl2, hus2, hvs2, hln2, hsz2, hat2, hwf2, heq2⟩ := hrel
            have HN2 := Lib.hid hnr2
            have HMR2 := Lib.hid hmr2
            have HWR2 := Lib.hid hwr2
            have HSL2 := Lib.hid hsl2
            have HVS2 := Lib.hid hvs2
            have HUS2 := Lib.hid hus2
            have HAT2 := Lib.hid hat2
            have HWF2 := Lib.hid hwf2
            have HENV2 := Lib.hid (HENV0.out.go hwf2)
            have HEQ2 := Lib.hid heq2
            have HSZ2 := Lib.hid hsz2
            have HLN2 := Lib.hid hln2
            clear hnr2 hmr2 hwr2 hsl2 hvs2 hus2 hat2 hwf2 heq2 hsz2
            by_cases hlt2 : i2 < bs.len
            · cases r2 with
              | nil => exfalso; simp [Fo.len] at hln2; omega
              | text t r => have := HMR2.out; cases this
              | hash r => have := HMR2.out; cases this
              | put n a r => have := HMR2.out; cases this
              | num n a r => have := HMR2.out; cases this
              | br n a fo of cl bs r => have := HMR2.out; cases this
              | leg k0 a0 m0 r0 =>
                obtain ⟨vt2, ma, mc, ms, he2, hmrow, hmn, hnr3⟩ := HN2.out
                subst he2
                have hwl : ws.length = us2.length + (vt2.length + 3) := by rw [HVS2.out]; simp
                have hat : ∀ j v, [strv k0, .int .i64 (a0 : Nat), .slice ma m0.len mc][j]? = some v → ∃ (h : i2 * 3 + j < ws.length), ws[i2 * 3 + j] = v := by
                  intro j v hj
                  have hj3 : j < 3 := by
                    apply Classical.byContradiction
                    intro hc
                    rw [List.getElem?_eq_none (by simp; omega)] at hj
                    cases hj
                  refine ⟨by have := HUS2.out; omega, ?_⟩
                  have h1 : ws[i2 * 3 + j]? = some v := by
                    rw [HVS2.out, ← HUS2.out, List.getElem?_append_right (by omega), Nat.add_sub_cancel_left, ← hj]
                    match j, hj3 with
                    | 0, _ => rfl
                    | 1, _ => rfl
                    | 2, _ => rfl
                  rw [List.getElem?_eq_getElem (by have := HUS2.out; omega)] at h1
                  exact Option.some.inj h1
                obtain ⟨q0, p0⟩ := hat 0 _ rfl
                obtain ⟨q1, p1⟩ := hat 1 _ rfl
                obtain ⟨q2, p2⟩ := hat 2 _ rfl
                obtain ⟨g2, o2, rfl, hg21, hg22, d0⟩ := HRW.out (i2 * 3 + 0) q0
                obtain ⟨g2', o2', hgg, _, _, d1⟩ := HRW.out (i2 * 3 + 1) q1
                cases hgg
                obtain ⟨g2', o2', hgg, _, _, d2⟩ := HRW.out (i2 * 3 + 2) q2
                cases hgg
                rw [p0] at d0
                rw [p1] at d1
                rw [p2] at d2
                have c0 := keep_cell HENV2.out.keep d0 hg21 hg22
                have c1 := keep_cell HENV2.out.keep d1 hg21 hg22
                have c2 := keep_cell HENV2.out.keep d2 hg21 hg22
                simp only [Nat.add_zero, ← Nat.add_assoc] at c0 c1 c2
                have HMR0 := Lib.hid hmrow
                have HMN0 := Lib.hid hmn
                have HNR3 := Lib.hid hnr3
                have k3 : (i2 : Int) < (bs.len : Int) := by omega
                have k4 : decide ((i2 : Int) < (bs.len : Int)) = true := by simp; omega
                clear hmrow hmn hnr3 d0 d1 d2 p0 p1 p2 hat
                have hwq2 : (decide (k0.length ≤ 4000001) && m0.isMsg && decide (m0.len ≤ 2000000) && m0.wf 2000000 && r0.wf 2000000) = true := HWR2.out
                simp only [Bool.and_eq_true, decide_eq_true_eq] at hwq2
                obtain ⟨⟨⟨⟨_, hm1⟩, hm2⟩, hm3⟩, hm4⟩ := hwq2
                have hss : SizeOf.sizeOf m0 < SizeOf.sizeOf f ∧ SizeOf.sizeOf r0 ≤ SizeOf.sizeOf bs := by have := HSZ.out; have := HSZ2.out; simp at this; omega
                have hsl3 : m0.slim ∧ r0.slim := HSL2.out
                have HIM := Lib.hid (HIH.out m0 nb hss.1 hm1 hm3 hsl3.1 hm2)
                have HSS := Lib.hid hss.2
                have HWR3 := Lib.hid hm4
                have HSL3 := Lib.hid hsl3.2
                have HMR3 := Lib.hid (show r0.isLegs = true from HMR2.out)
                have HLN3 := Lib.hid (show i2 + (r0.len + 1) = bs.len from HLN2.out)
                have HFE2 := Lib.hid (show acc2 ++ ((32 :: (k0 ++ [32, 123])) ++ (wrF Lib.decDigits offV nb m0 ++ ([125] ++ (wrF Lib.decDigits offV nb r0 ++ 125 :: wrF Lib.decDigits offV num r)))) = F by rw [← HEQ2.out, wrF]; simp)
                clear hm1 hm2 hm3 hm4 hss hsl3
                have hwrb : b < wr.heap.size := HAT2.out.lt.1
                obtain ⟨tb, htb⟩ : ∃ x, wr.heap.size = x := ⟨_, rfl⟩
                have HTB := Lib.hid htb
                have htbb : tb ≠ b := by omega
                have HTBB := Lib.hid htbb
                clear htb htbb
                go_wp2_with fail
                refine calls_gen ?_
                intro W8 hW8
                have hb8 : Below wr.heap.size wr W8 := by rw [hW8]; exact ((Below.refl _ _).alloc (Nat.le_refl _) _).alloc (by simp) _
                have HROW8 := Lib.hid (show TxtRow W8 (wr.heap.size + 1) [[32], k0, [32, 123]] from ⟨9, (0, 0), by decide, by decide, by rw [hW8]; have q := heap_alloc_new (wr.alloc (.cells #[strv k0, .int .i64 (a0 : Nat), .slice ma m0.len mc] 121)) (.cells #[strv [32], strv k0, strv [32, 123]] 9); simpa using q⟩)
                have htc : W8.heap[tb]? = some (.cells #[strv k0, .int .i64 (a0 : Nat), .slice ma m0.len mc] 121 (0, 0)) := by
                  rw [hW8, ← HTB.out, Below.heap_alloc (wr.alloc _) _ wr.heap.size (by simp)]
                  exact heap_alloc_new _ _
                have hat8 := HAT2.out.later hb8
                have hsz8 := Nat.le_trans HAT2.out.lt.2 (Nat.le_of_lt HAT2.out.lt.1)
                have hwf8 := WF.later (b := b) hsz8 hb8
                clear hW8
                refine (wr_all B b (wr.heap.size + 1) acc2 [[32], k0, [32, 123]] W8 hat8 HROW8.out (by have h1 := congrArg List.length HFE2.out; have h2 := HFL.out; simp only [List.length_append, List.length_cons, List.length_nil] at h1; simp; omega) (by simp)).mono ?_
                rintro e w8 ⟨⟨rv8, rfl⟩, hw8, hf8⟩
                have HAT8 := Lib.hid (show WrAt B b (acc2 ++ (32 :: (k0 ++ [32, 123]))) w8 by simpa using hw8)
                have htc8 : w8.heap[tb]? = some (.cells #[strv k0, .int .i64 (a0 : Nat), .slice ma m0.len mc] 121 (0, 0)) := hf8.kept tb _ htc (by simpa using HTBB.out) (fun c fz e => by cases e)
                have HTC8 := Lib.hid htc8
                have HWF8 := Lib.hid (HWF2.out.trans (hwf8.trans hf8))
                have HENV8 := Lib.hid (HENV2.out.go (hwf8.trans hf8))
                have hS8 : w8.drew.cell? ⟨tb, 2, none⟩ = some (.slice ma m0.len mc) ∧ w8.drew.cell? ⟨b0, 2, none⟩ = some (.int .i64 (fo : Nat)) := ⟨by show w8.cell? _ = _; rw [Lib.cell_of_heap htc8]; rfl, keep_cell HENV8.out.keep HC2.out hb1 hb2⟩
                rw [HTB.out]
                clear hw8 hf8 hat8 hsz8 hwf8 hb8 htc htc8 c0 c1 c2 hh4 hc1 hwrb
                have g1 := HNB1.out
                have g2 := HNB2.out
                go_wp2_with fail
                refine wp_region_takes (fun W' : World => W'.cell? ⟨tb, 2, none⟩ = some (.slice ma m0.len mc) ∧ W'.cell? ⟨b0, 2, none⟩ = some (.int .i64 (fo : Nat))) [0, 1, 2, 3, 4, 5, 6, 7] 1 (by intro _ _ d _ _ h; cases d <;> exact h) (by kernel_rfl) (by kernel_rfl) hS8 ?_
                (iterate 8 (first | (refine takes_yes (v := ?_) rfl (by rfl) ?_ ?_; rotate_left; (focus ((intro w' hS'; (try dsimp only at hS'); go_simp; try (with_reducible rfl)); done)); (try simp only [Act.put, List.setIfInBounds_toArray, List.set_cons_zero, List.set_cons_succ])) | (refine takes_no rfl (by rfl) ?_; (try simp only [Act.put, List.setIfInBounds_toArray, List.set_cons_zero, List.set_cons_succ]))))
                refine takes_nil ?_
                obtain ⟨wd2, hwd2⟩ : ∃ X, w8.drew = X := ⟨_, rfl⟩
                have HATE := Lib.hid (show WrAt B b (acc2 ++ (32 :: (k0 ++ [32, 123]))) wd2 by rw [← hwd2]; exact HAT8.out)
                have hwfe : WF B b w8 wd2 := by rw [← hwd2]; exact (WF.refl _ _ _).drew
                have HWFE := Lib.hid (HWF8.out.trans hwfe)
                have HENVE := Lib.hid (HENV8.out.go hwfe)
                have htce : wd2.heap[tb]? = some (.cells #[strv k0, .int .i64 (a0 : Nat), .slice ma m0.len mc] 121 (0, 0)) := by rw [← hwd2]; exact HTC8.out
                rw [hwd2]
                clear hwd2 hwfe hS8
                refine wpAnyH_only 8 (by kernel_rfl) rfl (fun K hK => ?_)
                go_simp
                refine (HIM.out (acc2 ++ (32 :: (k0 ++ [32, 123]))) wd2 ma mc ms HATE.out HENVE.out HMR0.out HMN0.out (by have h1 := congrArg List.length HFE2.out; have h2 := HFL.out; simp only [List.length_append, List.length_cons, List.length_nil] at h1; simp; omega)).mono ?_
                rintro e w10 ⟨⟨rv10, rfl⟩, h1, h2⟩
                have htc10 : w10.heap[tb]? = some (.cells #[strv k0, .int .i64 (a0 : Nat), .slice ma m0.len mc] 121 (0, 0)) := h2.kept tb _ htce (by simpa using HTBB.out) (fun c fz e => by cases e)
                have HAT10 := Lib.hid h1
                have HWF10 := Lib.hid (HWFE.out.trans h2)
                have HENV10 := Lib.hid (HENVE.out.go h2)
                refine hK.out _ _ ⟨by rw [Lib.cell_of_heap htc10]; rfl, keep_cell HENV10.out.keep HC2.out hb1 hb2⟩ (fun _ => ?_)
                clear hK K h1 h2 htce htc10
                refine wpAnyH_done (by kernel_rfl) ?_ _
                go_wp2_with fail
                refine calls_gen ?_
                intro W12 hW12
                have hb12 : Below w10.heap.size w10 W12 := by rw [hW12]; exact (Below.refl _ _).alloc (Nat.le_refl _) _
                have HROW12 := Lib.hid (show TxtRow W12 w10.heap.size [[125]] from ⟨9, (0, 0), by decide, by decide, by rw [hW12]; exact heap_alloc_new _ _⟩)
                have hat12 := HAT10.out.later hb12
                have hsz12 := Nat.le_trans HAT10.out.lt.2 (Nat.le_of_lt HAT10.out.lt.1)
                have hwf12 := WF.later (b := b) hsz12 hb12
                clear hW12
                refine (wr_all B b w10.heap.size (acc2 ++ (32 :: (k0 ++ [32, 123])) ++ wrF Lib.decDigits offV nb m0) [[125]] W12 hat12 HROW12.out (by have h1 := congrArg List.length HFE2.out; have h2 := HFL.out; simp only [List.length_append, List.length_cons, List.length_nil] at h1; simp; omega) (by simp)).mono ?_
                rintro e w12 ⟨⟨rv12, rfl⟩, hw12, hf12⟩
                have HAT12 := Lib.hid (show WrAt B b (acc2 ++ (32 :: (k0 ++ [32, 123])) ++ wrF Lib.decDigits offV nb m0 ++ [125]) w12 by simpa using hw12)
                have HFX12 := Lib.hid (hwf12.trans hf12)
                have HWF12 := Lib.hid (HWF10.out.trans HFX12.out)
                have HENV12 := Lib.hid (HENV10.out.go HFX12.out)
                clear hw12 hf12 hat12 hsz12 hwf12 hb12
                go_wp2
                go_roundw
                case rel => exact ⟨i2 + 1, us2 ++ [strv k0, .int .i64 (a0 : Nat), .slice ma m0.len mc], vt2, r0, acc2 ++ (32 :: (k0 ++ [32, 123])) ++ wrF Lib.decDigits offV nb m0 ++ [125], by simp, by omega, HNR3.out, HMR3.out, HWR3.out, HSL3.out, by have := HUS2.out; simp; omega, by rw [HVS2.out, List.append_assoc]; rfl, by have := HLN3.out; omega, HSS.out, HAT12.out, HWF12.out, by rw [← HFE2.out]; simp⟩
                case measure => simp only [intOf]; omega
            · have k4 : decide ((i2 : Int) < (bs.len : Int)) = false := by simp; omega
              have hr0 : r2 = .nil := by
                have := HMR2.out
                cases r2 <;> simp [Fo.len] at hln2 <;> first | rfl | omega
              have HFE3 := Lib.hid (show acc2 ++ ([125] ++ wrF Lib.decDigits offV num r) = F by rw [← HEQ2.out, hr0]; rfl)
              have HSZ := Lib.hid HSZ.out.1
              go_wp2_with fail
              refine calls_gen ?_
              intro W9 hW9
              have hb9 : Below wr.heap.size wr W9 := by rw [hW9]; exact (Below.refl _ _).alloc (Nat.le_refl _) _
              have HROW9 := Lib.hid (show TxtRow W9 wr.heap.size [[125]] from ⟨9, (0, 0), by decide, by decide, by rw [hW9]; exact heap_alloc_new _ _⟩)
              have hat9 := HAT2.out.later hb9
              have hsz9 := Nat.le_trans HAT2.out.lt.2 (Nat.le_of_lt HAT2.out.lt.1)
              have hwf9 := WF.later (b := b) hsz9 hb9
              clear hW9
              refine (wr_all B b wr.heap.size (acc2) [[125]] W9 hat9 HROW9.out (by have h1 := congrArg List.length HFE3.out; have h2 := HFL.out; simp only [List.length_append, List.length_cons, List.length_nil] at h1; simp; omega) (by simp)).mono ?_
              rintro e w9 ⟨⟨rv9, rfl⟩, hw9, hf9⟩
              have HAT9 := Lib.hid (show WrAt B b (acc2 ++ [125]) w9 by simpa using hw9)
              have HFX9 := Lib.hid (hwf9.trans hf9)
              have HWF9 := Lib.hid (HWF2.out.trans HFX9.out)
              have HENV9 := Lib.hid (HENV2.out.go HFX9.out)
              clear hw9 hf9 hat9 hsz9 hwf9 hb9
              go_wp2
              go_roundw
              case rel => exact ⟨i + 1, us ++ [(.iface 115 (.pointer (some ⟨b0, 0, none⟩)))], _, r, acc2 ++ [125], by simp, by omega, HNR.out, HMR.out, HWR.out, HSL.out, by simp [HUS.out], by rw [HVS.out, List.append_assoc]; rfl, by have := HLN.out; omega, by have := HSZ.out; omega, HAT9.out, HWF9.out, by rw [List.append_assoc]; exact HFE3.out⟩
              case measure => simp only [intOf]; omega
    · have k2 : decide ((i : Int) < (L : Int)) = false := by simp; omega
      have hr0 : r = .nil := by
        cases r <;> simp [Fo.len] at hln <;> first | rfl | omega
      have HE := Lib.hid (show acc = F by have := HEQ.out; rw [hr0, wrF, List.append_nil] at this; exact this)
      go_wp2
      go_end0
      exact ⟨⟨_, rfl⟩, by rw [← HE.out]; exact HAT.out, HWF.out⟩
end Go.Proofs.YtdelpialeajajaaGreatDoor

/- syntax.Write, phrases.Canon, plain.Canon: a pattern in its one form. -/
namespace Go.Proofs.YtdelpialeajajaaGreatDoor
open Go Go.RowKit
set_option maxRecDepth 10000

theorem write_all {lo hi B b : Nat} {w0 : World} : ∀ (n : Nat) (f : Fo) (num : Bool), SizeOf.sizeOf f < n → f.isMsg = true → f.wf 2000000 = true → f.slim → f.len ≤ 2000000 → MsgW lo hi B b w0 num f
  | 0, f, num, h, _, _, _, _ => absurd h (Nat.not_lt_zero _)
  | n + 1, f, num, h, hm, hw, hs, hl => msg_write num f hm hw hs hl fun m nm h1 h2 h3 h4 h5 => write_all n m nm (by omega) h2 h3 h4 h5

/-- what the one form wants of a world -/
structure CanEnv (w : World) : Prop where
  mx : ∃ m, w.cell? ⟨9, 0, none⟩ = some (.int .i64 m)
  words : WordsAt w
  pow : Lib.TabIs Tryz.prog w "internal/strconv.uint64pow10" .u64 Lib.pow10Tab
theorem pow_lt {w : World} (h : Lib.TabIs Tryz.prog w "internal/strconv.uint64pow10" .u64 Lib.pow10Tab) : 6 < w.heap.size := by
  unfold Lib.TabIs World.var? at h
  rw [pow_global] at h
  simp only [Option.bind_some] at h
  apply Classical.byContradiction
  intro hc
  rw [Array.getElem?_eq_none (by omega)] at h
  cases h
theorem CanEnv.below {w w' : World} (h : CanEnv w) (hb : Below w.heap.size w w') : CanEnv w' := by
  obtain ⟨⟨m, h1⟩, h2, h3⟩ := h
  exact ⟨⟨m, (hb.cell (World.block_lt_of_cell? w _ h1)).trans h1⟩, fun j hj => (hb.cell (World.block_lt_of_cell? w _ (h2 j hj))).trans (h2 j hj), tab_below h3 hb (pow_lt h3)⟩
theorem CanEnv.wenv {lo hi : Nat} {w : World} (h : CanEnv w) (hh : hi ≤ w.heap.size) : WEnv lo hi w.heap.size w w where
  keep := keep_refl hh
  hi := hh
  mx := ⟨by obtain ⟨m, h1⟩ := h.mx; exact World.block_lt_of_cell? w _ h1, h.mx⟩
  words := ⟨World.block_lt_of_cell? w _ (h.words 0 (by decide)), h.words⟩
  pow := ⟨pow_lt h.pow, h.pow⟩

set_option maxHeartbeats 2000000 in
theorem syn_write (lo hi : Nat) (f : Fo) (a : Option Addr) (c : Nat) (vs : List Value) (w : World) (hE : CanEnv w) (hrow : RowC lo hi w a vs) (hnod : NodesV lo hi w vs f) (hh : hi ≤ w.heap.size) (hm : f.isMsg = true) (hw : f.wf 2000000 = true) (hs : f.slim) (hl : f.len ≤ 2000000) (hlen : (wrF Lib.decDigits offV false f).length ≤ 10000000) :
    Calls Tryz.prog 42 #[.slice a f.len c] w fun e w' => e = .returned (strv (wrF Lib.decDigits offV false f)) ∧ Below w.heap.size w w' := by
  obtain ⟨B, hB⟩ : ∃ B, w.heap.size = B := ⟨_, rfl⟩
  obtain ⟨W, hW⟩ : ∃ W, w.alloc (.cells #[.pointer none, .slice none 0 0] 141) = W := ⟨_, rfl⟩
  have hbW : Below B w W := by rw [← hW, ← hB]; exact (Below.refl _ _).alloc (Nat.le_refl _) _
  have hat : WrAt B B [] W := by
    have := wr_new w B (by omega)
    rw [hW, hB] at this
    exact this
  have hwf : WF B B w W := WF.later (Nat.le_of_eq hB.symm) (hB ▸ hbW)
  have henv := hE.wenv (lo := lo) hh
  rw [hB] at henv
  have HM := Lib.hid (write_all (lo := lo) (hi := hi) (B := B) (b := B) (w0 := w) (SizeOf.sizeOf f + 1) f false (Nat.lt_succ_self _) hm hw hs hl [] W a c vs hat (henv.go hwf) hrow hnod (by simp; omega))
  have HBW := Lib.hid hbW
  have HW := Lib.hid hW
  obtain ⟨F, hF⟩ : ∃ F, wrF Lib.decDigits offV false f = F := ⟨_, rfl⟩
  rw [hF] at HM hlen ⊢
  rw [List.nil_append] at HM
  have HB := Lib.hid hB
  clear hE hrow hnod hh hm hw hs hl hbW hat hwf henv hF hW hB
  go_enter Tryz.func42, Tryz.ntmps42
  go_wp2_with fail
  rw [HW.out, HB.out]
  refine HM.out.mono ?_
  rintro e w1 ⟨⟨v, rfl⟩, h1, h2⟩
  have HAT := Lib.hid h1
  have HBL := Lib.hid (HBW.out.trans h2.below)
  have HG := Lib.hid (wr_get B B F w1 h1 (by omega))
  clear h1 h2
  go_wp2_with fail
  refine HG.out.mono ?_
  rintro e w2 ⟨rfl, hb2⟩
  have HB2 := Lib.hid (HBL.out.trans hb2)
  clear hb2
  go_wp2
  go_ret
  exact ⟨rfl, by have h := HB2.out; rw [← HB.out] at h; exact h⟩

def CanonPQ (r : Except (Nat × Nat) Fo) (w : World) (e : Ending) (w' : World) : Prop :=
  (match r with
    | .error (n, a) => ∃ b, e = .returned (.tuple #[.string ⟨#[]⟩, .iface 86 (.pointer (some ⟨b, 0, none⟩))]) ∧ w'.cell? ⟨b, 0, none⟩ = some (.int .i64 n) ∧ w'.cell? ⟨b, 1, none⟩ = some (.int .i64 a)
    | .ok f => e = .returned (.tuple #[strv (wrF Lib.decDigits offV false f), .nilIface])) ∧ Below w.heap.size w w'

set_option maxHeartbeats 2000000 in
theorem pcanon_any (s : ByteArray) (w : World) (hs : s.size ≤ 9223372036854775807) (hT : Lib.Utf8Tabs 2 3 w) (hN : NamesAt w) (hE : CanEnv w)
    (hsl : ∀ f, readP s.data.toList = .ok f → f.slim ∧ (wrF Lib.decDigits offV false f).length ≤ 10000000) :
    Calls Tryz.prog 28 #[.string s] w (CanonPQ (readP s.data.toList) w) := by
  have HRD := Lib.hid (read_msg s w hs hT hN)
  have HE := Lib.hid hE
  obtain ⟨r, hr⟩ : ∃ r, readP s.data.toList = r := ⟨_, rfl⟩
  rw [hr] at HRD hsl ⊢
  have HSL := Lib.hid hsl
  clear hT hN hE hsl hr
  go_enter Tryz.func28, Tryz.ntmps28
  go_wp2_with fail
  refine HRD.out.mono ?_
  rintro e w1 hq
  cases r with
  | error en =>
    obtain ⟨n, a⟩ := en
    obtain ⟨⟨v, b, rfl, ⟨va, vn, vc, rfl⟩, c0, c1⟩, hb1⟩ := hq
    have HQ := Lib.hid (show w1.cell? ⟨b, 0, none⟩ = some (.int .i64 n) ∧ w1.cell? ⟨b, 1, none⟩ = some (.int .i64 a) ∧ Below w.heap.size w w1 from ⟨c0, c1, hb1⟩)
    clear c0 c1 hb1
    go_wp2
    go_ret2
    exact ⟨⟨b, rfl, HQ.out.1, HQ.out.2.1⟩, HQ.out.2.2⟩
  | ok f =>
    obtain ⟨⟨⟨a, c, vs, rfl, hrow, hnod⟩, hg⟩, hb1⟩ := hq
    obtain ⟨h1, h2⟩ := HSL.out f rfl
    have HWR := Lib.hid (syn_write w.heap.size w1.heap.size f a c vs w1 (HE.out.below hb1) hrow hnod (Nat.le_refl _) hg.msg hg.wf h1 (by have := hg.len; omega) h2)
    have HB1 := Lib.hid hb1
    clear hrow hnod hg hb1 h1 h2
    go_wp2_with fail
    refine HWR.out.mono ?_
    rintro e w2 ⟨rfl, hb2⟩
    have HB2 := Lib.hid (HB1.out.trans (hb2.mono HB1.out.size))
    clear hb2
    go_wp2
    go_ret2
    exact ⟨rfl, HB2.out⟩

def CanonQ (r : Except (Nat × Nat) Fo) (w : World) (e : Ending) (w' : World) : Prop :=
  (match r with
    | .error (n, a) => e = .returned (.tuple #[.string ⟨#[]⟩, .int .i64 (n : Nat), .int .i64 (a : Nat)])
    | .ok f => e = .returned (.tuple #[strv (wrF Lib.decDigits offV false f), .int .i64 0, .int .i64 0])) ∧ Below w.heap.size w w'

set_option maxHeartbeats 2000000 in
theorem plain_canon (s : ByteArray) (w : World) (hs : s.size ≤ 9223372036854775807) (hT : Lib.Utf8Tabs 2 3 w) (hN : NamesAt w) (hR : ErrT w) (hE : CanEnv w)
    (hsl : ∀ f, readP s.data.toList = .ok f → f.slim ∧ (wrF Lib.decDigits offV false f).length ≤ 10000000) :
    Calls Tryz.prog 15 #[.string s] w (CanonQ (readP s.data.toList) w) := by
  have HC := Lib.hid (pcanon_any s w hs hT hN hE hsl)
  have HR := Lib.hid hR
  obtain ⟨r, hr⟩ : ∃ r, readP s.data.toList = r := ⟨_, rfl⟩
  rw [hr] at HC ⊢
  clear hT hN hE hsl hr hR
  go_enter Tryz.func15, Tryz.ntmps15
  go_wp2_with fail
  refine HC.out.mono ?_
  rintro e w1 hq
  cases r with
  | error en =>
    obtain ⟨n, a⟩ := en
    obtain ⟨⟨b, rfl, c0, c1⟩, hb1⟩ := hq
    have HT := Lib.hid (tell_f b (n : Nat) (a : Nat) w1 (HR.out.below hb1) c0 c1)
    have HB1 := Lib.hid hb1
    clear c0 c1 hb1
    go_wp2_with fail
    refine HT.out.mono ?_
    rintro e w2 ⟨rfl, hb2⟩
    have HB2 := Lib.hid (HB1.out.trans (hb2.mono HB1.out.size))
    clear hb2
    go_wp2
    refine bodyPost_ret (v := .tuple #[.string ⟨#[]⟩, .int .i64 (n : Nat), .int .i64 (a : Nat)]) ?_ rfl ?_
    · simp [results, Tryz.results15, go_sem]
    exact ⟨rfl, HB2.out⟩
  | ok f =>
    obtain ⟨rfl, hb1⟩ := hq
    have HT := Lib.hid (tell_nil w1)
    have HB1 := Lib.hid hb1
    obtain ⟨F, hF⟩ : ∃ F, wrF Lib.decDigits offV false f = F := ⟨_, rfl⟩
    rw [hF]
    have HF := Lib.hid hF
    clear hb1 hF
    go_wp2_with fail
    refine HT.out.mono ?_
    rintro e w2 ⟨rfl, hb2⟩
    have HB2 := Lib.hid (HB1.out.trans (hb2.mono HB1.out.size))
    clear hb2
    go_wp2
    refine bodyPost_ret (v := .tuple #[strv F, .int .i64 0, .int .i64 0]) ?_ rfl ?_
    · simp [results, Tryz.results15, go_sem]
    refine ⟨?_, HB2.out⟩
    show _ = Ending.returned (.tuple #[strv (wrF Lib.decDigits offV false f), .int .i64 0, .int .i64 0])
    rw [HF.out]
end Go.Proofs.YtdelpialeajajaaGreatDoor

/- The laws canon and Canons. -/
namespace Go.Proofs.YtdelpialeajajaaGreatDoor
open Go Go.RowKit
set_option maxRecDepth 10000

/-- what both Canons answer -/
def CanAns (T : Wd) (e0 a0 : Nat) (w : World) (e : Ending) (w' : World) : Prop :=
  e = .returned (.tuple #[strv T, .int .i64 (e0 : Nat), .int .i64 (a0 : Nat)]) ∧ Below w.heap.size w w'

structure CEnv (w : World) : Prop where
  err : ErrT w
  utf : Lib.Utf8Tabs 2 3 w
  names : NamesAt w
  can : CanEnv w
theorem can_both (s : ByteArray) (hs : s.size ≤ 65536) : ∃ (T : Wd) (e0 a0 : Nat), (∀ w, CEnv w → Calls Tryz.prog 15 #[.string s] w (CanAns T e0 a0 w)) ∧ ∀ w, Calls Tryz.prog 16 #[.string s] w (CanAns T e0 a0 w) := by
  obtain ⟨hok, h⟩ := read_law s
  rcases h with ⟨e, a, h⟩ | ⟨f, h⟩
  · refine ⟨[], e, a, fun w hw => ?_, fun w => ?_⟩
    · refine (plain_canon s w (by omega) hw.utf hw.names hw.err hw.can (fun f hf => by rw [h.p] at hf; cases hf)).mono ?_
      intro e' w' hq
      rw [h.p] at hq
      exact hq
    · refine (dcanon_any s w (by omega) hok (by rw [h.d]; exact Nat.zero_le _) (by rw [h.d]; trivial) (by rw [h.d]; exact Nat.zero_le _) (by rw [h.d]; exact fun q => absurd q h.ne) (by rw [h.d]; exact fun m hm => by cases hm)).mono ?_
      intro e' w' hq
      unfold CanonDQ at hq
      rw [h.d] at hq
      dsimp only at hq
      rw [if_neg h.ne] at hq
      exact hq
  · have c := law_more h
    refine ⟨wrF Lib.decDigits offV false f, 0, 0, fun w hw => ?_, fun w => ?_⟩
    · refine (plain_canon s w (by omega) hw.utf hw.names hw.err hw.can (fun g hg => by
        rw [h.p] at hg
        cases hg
        exact ⟨c.slim, c.len⟩)).mono ?_
      intro e' w' hq
      rw [h.p] at hq
      exact hq
    · refine (dcanon_any s w (by omega) hok (by rw [h.d]; exact c.cnt) (by rw [h.d]; exact c.open_) (by rw [h.d]; show (canGo [] (marksF _ f)).length ≤ _; rw [c.form]; exact c.len) (by rw [h.d]; exact fun _ => rfl) (by
        rw [h.d]
        intro m hm
        obtain ⟨h1, h2, h3⟩ := slim_marks _ f c.slim m hm
        exact ⟨c.txt m hm, h1, h2, h3, c.kind m hm⟩)).mono ?_
      intro e' w' hq
      unfold CanonDQ at hq
      rw [h.d] at hq
      dsimp only at hq
      rw [if_pos rfl, c.form] at hq
      exact hq

set_option maxHeartbeats 4000000 in
theorem law_canon (s : ByteArray) (w : World) (hs : s.size ≤ 65536) (hw : CEnv w) : Calls Tryz.prog 7 #[.string s] w fun e w' => e = .returned (.bool true) ∧ Below w.heap.size w w' := by
  obtain ⟨T, e0, a0, h1, h2⟩ := can_both s hs
  have HP := Lib.hid (h1 w hw)
  have HD := Lib.hid h2
  clear h1 h2 hw
  go_enter Tryz.func7, Tryz.ntmps7
  go_wp2_with fail
  refine HP.out.mono ?_
  rintro e w1 ⟨rfl, hb1⟩
  have HB1 := Lib.hid hb1
  clear hb1
  go_wp2_with fail
  refine (HD.out w1).mono ?_
  rintro e w2 ⟨rfl, hb2⟩
  have HB2 := Lib.hid (HB1.out.trans (hb2.mono HB1.out.size))
  clear hb2
  have j1 : ((e0 : Int) == e0) = true := beq_self_eq_true _
  have j2 : ((a0 : Int) == a0) = true := beq_self_eq_true _
  have j3 : (T == T) = true := beq_self_eq_true _
  go_wp2
  go_ret
  exact ⟨rfl, HB2.out⟩

set_option maxHeartbeats 4000000 in
theorem canons_law (s : ByteArray) (w : World) (hs : s.size ≤ 9223372036854775807) (hw : CEnv w) : Calls Tryz.prog 4 #[.string s] w fun e w' => e = .returned (.bool true) ∧ Below w.heap.size w w' := by
  obtain ⟨n, hn⟩ : ∃ n, s.size = n := ⟨_, rfl⟩
  have HRF := Lib.hid (Below.refl w.heap.size w)
  by_cases h : 65536 < n
  · have j1 : decide ((65536 : Int) < (n : Int)) = true := by simp; omega
    have j2 : decide (65536 < n) = true := by simp; omega
    have j3 : (65536 : Int) < (n : Int) := by omega
    go_enter Tryz.func4, Tryz.ntmps4
    go_wp2_with fail
    go_ret
    exact ⟨rfl, HRF.out⟩
  · have j1 : decide ((65536 : Int) < (n : Int)) = false := by simp; omega
    have j2 : decide (65536 < n) = false := by simp; omega
    have HC := Lib.hid (law_canon s w (by omega) hw)
    clear hw
    go_enter Tryz.func4, Tryz.ntmps4
    go_wp2_with fail
    refine HC.out.mono ?_
    rintro e w1 ⟨rfl, hb1⟩
    have HB1 := Lib.hid hb1
    clear hb1
    go_wp2
    go_ret
    exact ⟨rfl, HB1.out⟩
end Go.Proofs.YtdelpialeajajaaGreatDoor
