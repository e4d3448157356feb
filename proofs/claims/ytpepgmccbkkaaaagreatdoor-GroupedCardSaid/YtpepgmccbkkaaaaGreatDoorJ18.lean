import Derived.Test.YtpepgmccbkkaaaaGreatDoorJ17
import Derived.Lib.Bytealg

/- bytes.Compare of digits; decimal's Compare. -/
namespace Go.Proofs.YtpepgmccbkkaaaaGreatDoor
open Go Go.RowKit
set_option maxRecDepth 10000

/-- digits of one length compared -/
def cmpB (a b : List UInt8) : Int := if Op.bytesLess a b = true then -1 else if a = b then 0 else 1

theorem byteOf_dig {c : UInt8} (h : isDig c = true) : (((c.toNat : Int) - 48).toNat.toUInt8).toNat = c.toNat - 48 := by
  have h1 := (isDig_iff c).1 h
  have h2 := c.toNat_lt
  simp only [Nat.toUInt8, UInt8.toNat_ofNat']
  omega

theorem compare_digs : ∀ (a b : List UInt8), a.length = b.length → a.all isDig = true → b.all isDig = true → Lib.compareBytes (Lib.bytesOf (vals a)) (Lib.bytesOf (vals b)) = cmpB a b
  | [], [], _, _, _ => rfl
  | c :: a, d :: b, hl, ha, hb => by
    simp only [List.all_cons, Bool.and_eq_true] at ha hb
    have ih := compare_digs a b (by simpa using hl) ha.2 hb.2
    have h1 := byteOf_dig ha.1
    have h2 := byteOf_dig hb.1
    have e1 := (isDig_iff c).1 ha.1
    have e2 := (isDig_iff d).1 hb.1
    have hx : Lib.bytesOf (vals (c :: a)) = ((c.toNat : Int) - 48).toNat.toUInt8 :: Lib.bytesOf (vals a) := rfl
    have hy : Lib.bytesOf (vals (d :: b)) = ((d.toNat : Int) - 48).toNat.toUInt8 :: Lib.bytesOf (vals b) := rfl
    rw [hx, hy, Lib.compareBytes, ih]
    unfold cmpB
    rw [Op.bytesLess]
    simp only [UInt8.lt_iff_toNat_lt, h1, h2]
    by_cases q1 : c.toNat < d.toNat
    · rw [if_pos (by omega), if_pos (by simp [q1])]
    · by_cases q2 : d.toNat < c.toNat
      · have hne : ¬ c = d := fun e => by rw [e] at q2; omega
        rw [if_neg (by omega), if_pos (by omega), if_neg (by simp [q1, hne]), if_neg (by simp [hne])]
      · have heq : c = d := UInt8.toNat_inj.1 (by omega)
        subst heq
        rw [if_neg (by omega), if_neg (by omega)]
        simp

theorem load_digs (l : List UInt8) (n c : Nat) (a : Addr) (w : World) (hn : n = l.length) (h : BytesAt w (some a) (vals l)) : (Extern.Bytes.bytesOf (.slice (some a) n c)).run Tryz.prog w = .ok ⟨(Lib.bytesOf (vals l)).toArray⟩ w := by
  subst hn
  have := Lib.run_loadBytesX (P := Tryz.prog) w (vals l) a .empty (fun j x hx => by
    have hj := (List.getElem?_eq_some_iff.1 hx).1
    obtain ⟨b, hb, hc⟩ := h j hj
    cases hb
    rw [hc]
    have := (List.getElem?_eq_some_iff.1 hx).2
    rw [this])
  rw [vals_length] at this
  show (Extern.Bytes.loadBytes a l.length .empty).run Tryz.prog w = _
  rw [this]
  congr 2
  simp

theorem compare_law (l1 l2 : List UInt8) (n1 c1 n2 c2 : Nat) (a b : Addr) (w : World) (e1 : n1 = l1.length) (e2 : n2 = l2.length) (h1 : BytesAt w (some a) (vals l1)) (h2 : BytesAt w (some b) (vals l2)) (hl : l1.length = l2.length) (d1 : l1.all isDig = true) (d2 : l2.all isDig = true) :
    (callFunc 145 #[.slice (some a) n1 c1, .slice (some b) n2 c2]).run Tryz.prog w = .ok (.value (.int .i64 (cmpB l1 l2))) w := by
  rw [run_callFunc_extern Tryz.func145 (by kernel_rfl) (by kernel_rfl) (by kernel_rfl) (e := Extern.BytealgCompare.compare) (by kernel_rfl)]
  have : (Extern.BytealgCompare.compare #[.slice (some a) n1 c1, .slice (some b) n2 c2]).run Tryz.prog w = .ok (.int .i64 (cmpB l1 l2)) w := by
    change (Sem.run Tryz.prog (do pure (goInt (Extern.BytealgCompare.cmp (← Extern.Bytes.bytesOf (.slice (some a) n1 c1)) (← Extern.Bytes.bytesOf (.slice (some b) n2 c2))))) w) = _
    simp only [Sem.run_bind, load_digs l1 n1 c1 a w e1 h1, Result.andThen, load_digs l2 n2 c2 b w e2 h2, Lib.cmp_eq, compare_digs l1 l2 hl d1 d2]
    rfl
  rw [this]
  rfl

set_option maxHeartbeats 1000000 in
theorem bytesCompare_any (l1 l2 : List UInt8) (n1 c1 n2 c2 : Nat) (a b : Addr) (w : World) (e1 : n1 = l1.length) (e2 : n2 = l2.length) (h1 : BytesAt w (some a) (vals l1)) (h2 : BytesAt w (some b) (vals l2)) (hl : l1.length = l2.length) (d1 : l1.all isDig = true) (d2 : l2.all isDig = true) :
    Calls Tryz.prog 137 #[.slice (some a) n1 c1, .slice (some b) n2 c2] w fun e w' => e = .returned (.int .i64 (cmpB l1 l2)) ∧ w = w' := by
  have hlaw := compare_law l1 l2 n1 c1 n2 c2 a b w e1 e2 h1 h2 hl d1 d2
  clear e1 e2 hl d1 d2 h1 h2
  go_enter Tryz.func137, Tryz.ntmps137
  go_wp2
  go_ret
  exact ⟨rfl, rfl⟩

theorem cmpB_cmpL {a b : List UInt8} (h : a.length = b.length) : cmpB a b = cmpL a b := by
  unfold cmpB cmpL
  rw [h]
  simp

theorem field_digits (b : Bool) (s k : Value) (w : World) : (Instr.field 65 (.agg #[.bool b, s, k]) 1).run Tryz.prog w = .ok s w := by
  kernel_rfl

set_option maxHeartbeats 1000000 in
theorem compare_any (v : Value) (x : Dg) (m : Nat) (w : World) (h : NumV w v x) (hm : m ≤ 1000000000) :
    Calls Tryz.prog 126 #[v, .int .i64 m] w fun e w' => e = .returned (.int .i64 (cmpT x m)) ∧ Below w.heap.size w w' := by
  have hok := h.ok
  have hl1 := hok.len1
  have HH := Lib.hid h
  have HO := Lib.hid hok
  have hbr := fun W (hW : NumV W v x) => broken_any v x W hW
  have HBR := Lib.hid hbr
  have hW := decL_short 9 m (by omega)
  obtain ⟨b, g, cap, rfl, _, _, _, _, _⟩ := h
  have hfd := field_digits
  clear hok hbr
  go_enter Tryz.func126, Tryz.ntmps126
  go_wp2_with fail
  refine (int_num _ x _ (HH.out.below ((Below.refl _ _).alloc (Nat.le_refl _) _))).mono ?_
  rintro e w1 ⟨⟨ad', cap', rfl, hc1, hc2, hB⟩, hb1⟩
  have hbox : (w.alloc (.cells #[.bool b, .slice (some ⟨g, 0, none⟩) (x.1.length + x.2.length) cap, .int .i64 x.2.length] 65)).heap.size = w.heap.size + 1 := by simp
  have k0 : w1.cell? ⟨w.heap.size, 0, none⟩ = some (.bool b) := (hb1.cell (by simp)).trans (cell_made _ _ _ _ _)
  have k1 : w1.cell? ⟨w.heap.size, 1, none⟩ = some (.slice (some ⟨g, 0, none⟩) (x.1.length + x.2.length) cap) := (hb1.cell (by simp)).trans (cell_made _ _ _ _ _)
  have k2 : w1.cell? ⟨w.heap.size, 2, none⟩ = some (.int .i64 x.2.length) := (hb1.cell (by simp)).trans (cell_made _ _ _ _ _)
  have hbb : Below w.heap.size w w1 := ((Below.refl _ _).alloc (Nat.le_refl _) _).trans (hb1.mono (by simp))
  have hs1 : w.heap.size < w1.heap.size := by have := hb1.size; rw [hbox] at this; omega
  clear hb1 hbox
  obtain ⟨p, rfl, _⟩ := hB 0 (by rw [vals_length]; exact List.length_pos_iff.2 HO.out.ne)
  have HB := Lib.hid hB
  clear hB
  go_wp2_with fail
  refine (whole_any m _ hm).mono ?_
  rintro e w2 ⟨⟨g2, cap2, rfl, ho⟩, hb2⟩
  have j0 := (hb2.cell (p := ⟨w.heap.size, 0, none⟩) hs1).trans k0
  have j1 := (hb2.cell (p := ⟨w.heap.size, 1, none⟩) hs1).trans k1
  have j2 := (hb2.cell (p := ⟨w.heap.size, 2, none⟩) hs1).trans k2
  have hbb2 : Below w.heap.size w w2 := hbb.trans (hb2.mono (by omega))
  have HB2 := Lib.hid (HB.out.below hb2)
  have HB3 := Lib.hid (bytesAt_own ho rfl)
  have HNV := Lib.hid (HH.out.below hbb2)
  clear ho hb2 k0 k1 k2 hbb
  have hdl := decL_ne m
  by_cases h1 : x.1.length < (decL m).length
  · have hc : cmpL x.1 (decL m) = -1 := by
      unfold cmpL
      rw [if_pos (.inl h1)]
    have hf : cmpT x m = -1 := by
      unfold cmpT
      rw [hc]
      rfl
    have HF := Lib.hid hf
    have g1 : ((x.1.length : Int) - ((decL m).length : Int) == 0) = false := by simp; omega
    have g2' : decide ((x.1.length : Int) - ((decL m).length : Int) < 0) = true := by simp; omega
    clear hf hc
    go_wp2
    all_goals (first | (exfalso; omega) | skip)
    go_ret
    exact ⟨by rw [HF.out]; rfl, hbb2⟩
  · by_cases h2 : (decL m).length < x.1.length
    · have hc : cmpL x.1 (decL m) = 1 := by
        unfold cmpL
        rw [if_neg (fun q => q.elim h1 (fun q => by omega)), if_neg (fun e => by rw [e] at h2; omega)]
      have hf : cmpT x m = 1 := by
        unfold cmpT
        rw [hc]
        simp
      have HF := Lib.hid hf
      have g1 : ((x.1.length : Int) - ((decL m).length : Int) == 0) = false := by simp; omega
      have g2' : decide ((x.1.length : Int) - ((decL m).length : Int) < 0) = false := by simp; omega
      have g3 : decide (0 < (x.1.length : Int) - ((decL m).length : Int)) = true := by simp; omega
      clear hf hc
      go_wp2
      all_goals (first | (exfalso; omega) | skip)
      go_ret
      exact ⟨by rw [HF.out]; rfl, hbb2⟩
    · have he : x.1.length = (decL m).length := by omega
      have g1 : ((x.1.length : Int) - ((decL m).length : Int) == 0) = true := by simp; omega
      have hcl := cmpB_cmpL he
      have hbc := bytesCompare_any x.1 (decL m) x.1.length cap' (decL m).length cap2 p ⟨g2, 0, none⟩ w2 rfl rfl HB2.out HB3.out he HO.out.dig1 (decL_dig m)
      have HBC := Lib.hid hbc
      obtain ⟨r, hr⟩ : ∃ r, cmpB x.1 (decL m) = r := ⟨_, rfl⟩
      have hcm : cmpL x.1 (decL m) = r := by rw [← hcl, hr]
      have hcs := cmp_cases x.1 (decL m)
      rw [hcm] at hcs
      have hfin : cmpT x m = if r < 0 then -1 else if 0 < r ∨ brk x.2 = true then 1 else 0 := by unfold cmpT; rw [hcm]
      have HFIN := Lib.hid hfin
      have HR := Lib.hid hr
      clear hbc hr hcm hcl hfin he h1 h2
      go_wp2_with fail
      refine HBC.out.mono ?_
      rw [HR.out]
      rintro e w3 ⟨rfl, rfl⟩
      rcases hcs with rfl | rfl | rfl
      · have hf := HFIN.out
        rw [if_pos (by decide)] at hf
        have HF := Lib.hid hf
        clear hf
        go_wp2
        go_ret
        exact ⟨by rw [HF.out]; rfl, hbb2⟩
      · have hf := HFIN.out
        rw [if_neg (by decide)] at hf
        have hbk := HBR.out w2 HNV.out
        obtain ⟨q, hq⟩ : ∃ q, brk x.2 = q := ⟨_, rfl⟩
        rw [hq] at hf hbk
        have HF := Lib.hid hf
        have HBK := Lib.hid hbk
        clear hf hbk hq
        go_wp2_with fail
        refine HBK.out.mono ?_
        rintro e w4 ⟨rfl, hb4⟩
        have hbb4 : Below w.heap.size w w4 := hbb2.trans (hb4.mono hbb2.size)
        cases q
        · go_wp2
          go_ret
          exact ⟨by rw [HF.out]; rfl, hbb4⟩
        · go_wp2
          go_ret
          exact ⟨by rw [HF.out]; rfl, hbb4⟩
      · have hf := HFIN.out
        rw [if_neg (by decide), if_pos (.inl (by decide))] at hf
        have HF := Lib.hid hf
        clear hf
        go_wp2
        go_ret
        exact ⟨by rw [HF.out]; rfl, hbb2⟩
end Go.Proofs.YtpepgmccbkkaaaaGreatDoor

/- decimal's Mod. -/
namespace Go.Proofs.YtpepgmccbkkaaaaGreatDoor
open Go Go.RowKit
set_option maxRecDepth 10000

theorem numBelow_box (w : World) (o o2 : Obj) : Below w.heap.size w ((w.alloc o).alloc o2) := ((Below.refl _ _).alloc (Nat.le_refl _) _).alloc (by simp) _

theorem ResC.grown {W W' : World} {q : Nat} {row : Option Nat} (h : ResC W q) (hg : W.grownBy W' row) (hne : some q ≠ row) : ResC W' q :=
  ⟨hg.cell h.c0 hne, hg.cell h.c1 hne, hg.cell h.c2 hne, (World.frozen?_of_block (hg.block q h.lt hne)).trans h.z0, (World.frozen?_of_block (hg.block q h.lt hne)).trans h.z1, (World.frozen?_of_block (hg.block q h.lt hne)).trans h.z2, Nat.lt_of_lt_of_le h.lt hg.size⟩
theorem ResC.set {W : World} {q : Nat} (h : ResC W q) {a : Addr} (ha : a.block ≠ q) (u : Value) : ResC (W.setCell a u) q :=
  have hb : (W.setCell a u).heap[q]? = W.heap[q]? := Below.heap_setCell _ _ _ _ (fun e => ha e.symm)
  ⟨(World.cell?_of_block hb).trans h.c0, (World.cell?_of_block hb).trans h.c1, (World.cell?_of_block hb).trans h.c2, (World.frozen?_of_block hb).trans h.z0, (World.frozen?_of_block hb).trans h.z1, (World.frozen?_of_block hb).trans h.z2, by simpa [World.setCell] using h.lt⟩

theorem digs_cells {w : World} {p : Addr} {l : List UInt8} (h : BytesAt w (some p) (vals l)) : ∀ j u, (digs l)[j]? = some u → w.cell? (p.add j) = some u := by
  intro j u hu
  have hj : j < (vals l).length := by
    have := (List.getElem?_eq_some_iff.1 hu).1
    simpa [digs, vals] using this
  obtain ⟨b, hb, hc⟩ := h j hj
  cases hb
  rw [hc]
  rw [digs_vals0, List.getElem?_map, List.getElem?_eq_getElem hj] at hu
  simpa using hu
theorem digs_one (l : List UInt8) : ∀ u ∈ digs l, u.oneCell' = true := by
  intro u hu
  simp only [digs, List.mem_map] at hu
  obtain ⟨c, _, rfl⟩ := hu
  rfl
theorem own_not_bool {w : World} {base g n cap : Nat} {e : TypeId} {a : List UInt8} {xs : List Value} {b : Bool} (h : w.ownsRow base e 1 (.slice (some ⟨g, 0, none⟩) n cap) n (digs a ++ xs)) (ha : a ≠ []) (hc : w.cell? ⟨g, 0, none⟩ = some (.bool b)) : False := by
  cases a with
  | nil => exact ha rfl
  | cons c t =>
    have hn : 0 < n := by have := h.1; simp [digs] at this; omega
    have := h.cellAt 0 (by omega)
    rw [hc] at this
    simp [digs] at this

set_option maxHeartbeats 2000000 in
theorem mod_any (v : Value) (x : Dg) (m : Nat) (w : World) (h : NumV w v x) (hm : m ≤ 1000000000) (hm0 : 0 < m) :
    Calls Tryz.prog 96 #[v, .int .i64 m] w (NumPost' (decL (leftL x.1 m), x.2) w) := by
  have hok := h.ok
  have hl1 := hok.len1
  have hl2 := hok.len2
  have HH := Lib.hid h
  have HO := Lib.hid hok
  obtain ⟨b, g, cap, rfl, _, _, _, _, _⟩ := h
  obtain ⟨hb0, hr0⟩ := res_world w (.cells #[.bool b, .slice (some ⟨g, 0, none⟩) (x.1.length + x.2.length) cap, .int .i64 x.2.length] 65)
  have hbx : ((w.alloc (.cells #[.bool b, .slice (some ⟨g, 0, none⟩) (x.1.length + x.2.length) cap, .int .i64 x.2.length] 65)).alloc (.cells #[.bool false, .slice none 0 0, .int .i64 0] 65)).cell? ⟨w.heap.size, 0, none⟩ = some (.bool b) ∧
      ((w.alloc (.cells #[.bool b, .slice (some ⟨g, 0, none⟩) (x.1.length + x.2.length) cap, .int .i64 x.2.length] 65)).alloc (.cells #[.bool false, .slice none 0 0, .int .i64 0] 65)).cell? ⟨w.heap.size, 1, none⟩ = some (.slice (some ⟨g, 0, none⟩) (x.1.length + x.2.length) cap) ∧
      ((w.alloc (.cells #[.bool b, .slice (some ⟨g, 0, none⟩) (x.1.length + x.2.length) cap, .int .i64 x.2.length] 65)).alloc (.cells #[.bool false, .slice none 0 0, .int .i64 0] 65)).cell? ⟨w.heap.size, 2, none⟩ = some (.int .i64 x.2.length) := ⟨by go_simp, by go_simp, by go_simp⟩
  clear hok
  go_enter Tryz.func96, Tryz.ntmps96
  go_wp2_with fail
  generalize (w.alloc (.cells #[.bool b, .slice (some ⟨g, 0, none⟩) (x.1.length + x.2.length) cap, .int .i64 x.2.length] 65)).alloc (.cells #[.bool false, .slice none 0 0, .int .i64 0] 65) = W at hb0 hr0 hbx ⊢
  obtain ⟨k0, k1, k2⟩ := hbx
  have hWs : w.heap.size < W.heap.size := World.block_lt_of_cell? W _ k0
  refine (int_num _ x _ (HH.out.below hb0)).mono ?_
  rintro e w1 ⟨⟨ad', cap', rfl, hc1, hc2, hB⟩, hb1⟩
  have hr1 := hr0.below hb1
  have hb01 : Below w.heap.size w w1 := hb0.trans (hb1.mono hb0.size)
  have j0 := (hb1.cell (p := ⟨w.heap.size, 0, none⟩) hWs).trans k0
  have j1 := (hb1.cell (p := ⟨w.heap.size, 1, none⟩) hWs).trans k1
  have j2 := (hb1.cell (p := ⟨w.heap.size, 2, none⟩) hWs).trans k2
  have HB := Lib.hid hB
  clear hb0 hr0 hb1 k0 k1 k2 hB hWs
  have hlt := fun l => leftL_lt l m hm0
  have HLT := Lib.hid hlt
  clear hlt
  go_wp2_with fail
  go_loop [5, 12] (fun r i => ∃ k : Nat, k ≤ x.1.length ∧ i = .int .i64 k ∧ r = .int .i64 (leftL (x.1.take k) m)) (fun _ i => x.1.length - (intOf i).toNat)
  case atStart => exact ⟨0, Nat.zero_le _, rfl, rfl⟩
  case round =>
    obtain ⟨k, hk, rfl, rfl⟩ := hrel
    by_cases hlt : k < x.1.length
    · obtain ⟨p, rfl, hc⟩ := HB.out k (by rw [vals_length]; exact hlt)
      have hvm : (vals x.1)[k]'(by rw [vals_length]; exact hlt) = (x.1[k].toNat : Int) - 48 := by simp [vals]
      rw [hvm] at hc
      have hd := (isDig_iff _).1 (List.all_eq_true.1 HO.out.dig1 _ (List.getElem_mem hlt))
      have hL := HLT.out (x.1.take k)
      have hsn : leftL (x.1.take (k + 1)) m = (10 * leftL (x.1.take k) m + (x.1[k].toNat - 48)) % m := by rw [List.take_succ_eq_append_getElem hlt, leftL_snoc]
      have HSN := Lib.hid hsn
      obtain ⟨r, hr⟩ : ∃ r, r = leftL (x.1.take k) m := ⟨_, rfl⟩
      obtain ⟨d, hdd⟩ : ∃ d : Nat, (d : Int) = (x.1[k].toNat : Int) - 48 := ⟨x.1[k].toNat - 48, by omega⟩
      have hd2 : x.1[k].toNat - 48 = d := by omega
      rw [← hdd] at hc
      rw [← hr, hd2] at HSN
      rw [← hr] at hL ⊢
      have hd9 : d ≤ 9 := by omega
      have hmz : ¬ ((m : Int) = 0) := by omega
      clear hsn hvm hd hr hdd hd2
      go_wp2
      exact ⟨⟨k + 1, by omega, by go_num, by rw [HSN.out]; go_num⟩, by simp [intOf]; omega⟩
    · obtain rfl : k = x.1.length := by omega
      have hlr := HLT.out (x.1.take x.1.length)
      rw [List.take_length] at hlr ⊢
      clear HLT HB
      obtain ⟨r, hr⟩ : ∃ r, r = leftL x.1 m := ⟨_, rfl⟩
      have HR := Lib.hid hr
      rw [← hr] at hlr ⊢
      clear hr
      go_wp2_with fail
      refine (whole_any r _ (by omega)).mono ?_
      rintro e w2 ⟨⟨g2, cap2, rfl, ho⟩, hb2⟩
      have hr2 := hr1.below hb2
      have hb02 : Below w.heap.size w w2 := hb01.trans (hb2.mono hb01.size)
      have hs1 : w.heap.size < w1.heap.size := World.block_lt_of_cell? w1 _ j0
      have i0 := (hb2.cell (p := ⟨w.heap.size, 0, none⟩) hs1).trans j0
      have i1 := (hb2.cell (p := ⟨w.heap.size, 1, none⟩) hs1).trans j1
      have i2 := (hb2.cell (p := ⟨w.heap.size, 2, none⟩) hs1).trans j2
      have hg2 := (ho.lt g2 rfl)
      have hr1lt := Lib.hid hr1.lt
      clear hb2 j0 j1 j2 hr1 hb01
      go_wp2_with (fail)
      have F : ∃ W3, W3 = w2.alloc (.cells #[.bool false, .slice (some ⟨g2, 0, none⟩) (decL r).length cap2, .int .i64 0] 65) ∧ Below w2.heap.size w2 W3 ∧ W3.heap.size = w2.heap.size + 1 ∧
          W3.cell? ⟨w2.heap.size, 0, none⟩ = some (.bool false) ∧ W3.cell? ⟨w2.heap.size, 1, none⟩ = some (.slice (some ⟨g2, 0, none⟩) (decL r).length cap2) ∧ W3.cell? ⟨w2.heap.size, 2, none⟩ = some (.int .i64 0) ∧
          W3.frozen? ⟨w2.heap.size, 0, none⟩ = false ∧ W3.frozen? ⟨w2.heap.size, 1, none⟩ = false ∧ W3.frozen? ⟨w2.heap.size, 2, none⟩ = false ∧
          W3.ownsRow w1.heap.size 5 1 (.slice (some ⟨g2, 0, none⟩) (decL r).length cap2) (decL r).length (digs (decL r)) :=
        ⟨_, rfl, (Below.refl _ _).alloc (Nat.le_refl _) _, by simp, by go_simp, by go_simp, by go_simp, by go_simp, by go_simp, by go_simp, ho.alloc _⟩
      obtain ⟨W3, hW3, hb3, hs3, q0, q1, q2, y0, y1, y2, ho3⟩ := F
      rw [← hW3]
      have hr3 := hr2.below hb3
      have hs2 : w.heap.size < w2.heap.size := World.block_lt_of_cell? w2 _ i0
      have o0 := (hb3.cell (p := ⟨w.heap.size, 0, none⟩) hs2).trans i0
      have o1 := (hb3.cell (p := ⟨w.heap.size, 1, none⟩) hs2).trans i1
      have o2 := (hb3.cell (p := ⟨w.heap.size, 2, none⟩) hs2).trans i2
      have hb03 : Below w.heap.size w W3 := hb02.trans (hb3.mono hb02.size)
      have hs12 : w1.heap.size ≤ w2.heap.size := by omega
      clear hW3 hb3 hr2 i0 i1 i2 ho
      obtain ⟨B, hBq⟩ : ∃ B, B = w.heap.size := ⟨_, rfl⟩
      obtain ⟨q, hq⟩ : ∃ q, q = w2.heap.size := ⟨_, rfl⟩
      rw [← hBq] at o0 o1 o2 hr3 hs2 ⊢
      rw [← hq] at q0 q1 q2 y0 y1 y2 hs2 hs3 ⊢
      have HBq := Lib.hid hBq
      have HQ := Lib.hid hq
      clear hBq hq
      have hS0 : W3.drew.cell? ⟨B, 0, none⟩ = some (.bool b) ∧ W3.drew.cell? ⟨B, 1, none⟩ = some (.slice (some ⟨g, 0, none⟩) (x.1.length + x.2.length) cap) ∧ W3.drew.cell? ⟨B, 2, none⟩ = some (.int .i64 x.2.length) := ⟨o0, o1, o2⟩
      refine wp_region_takes (fun W' : World => W'.cell? ⟨B, 0, none⟩ = some (.bool b) ∧ W'.cell? ⟨B, 1, none⟩ = some (.slice (some ⟨g, 0, none⟩) (x.1.length + x.2.length) cap) ∧ W'.cell? ⟨B, 2, none⟩ = some (.int .i64 x.2.length))
        [0, 2, 5, 6] 7 (by intro _ _ d _ _ h; cases d <;> exact h) (by kernel_rfl) (by kernel_rfl) hS0 ?_
      (iterate 4 (first | (refine takes_yes (v := ?_) rfl (by rfl) ?_ ?_; rotate_left; (focus ((intro w' hS'; (try dsimp only at hS'); go_simp; try (with_reducible rfl)); done)); (try simp only [Act.put, List.setIfInBounds_toArray, List.set_cons_zero, List.set_cons_succ])) | (refine takes_no rfl (by rfl) ?_; (try simp only [Act.put, List.setIfInBounds_toArray, List.set_cons_zero, List.set_cons_succ]))))
      refine takes_nil ?_
      refine wpAnyH_ready (rs := [1, 3]) (by kernel_rfl) (by simp) (AllReadyH.cons rfl (fun K hK => ?_) (AllReadyH.cons rfl (fun K hK => ?_) AllReadyH.nil))
      · go_simp
        refine hK.out _ _ hS0 (fun _ => ?_)
        clear hK K
        refine wpAnyH_only 3 (by kernel_rfl) rfl (fun K hK => ?_)
        go_simp
        refine (frac_num2 _ x _ (HH.out.below hb03.drew)).mono ?_
        rintro e w4 ⟨⟨p4, cap4, rfl, hc3, hc4, hB4⟩, hb4⟩
        have hB3 : B < W3.heap.size := World.block_lt_of_cell? W3 _ o0
        have hq3 : q < W3.heap.size := World.block_lt_of_cell? W3 _ q1
        have a0 := (hb4.cell (p := ⟨B, 0, none⟩) hB3).trans hS0.1
        have a1 := (hb4.cell (p := ⟨B, 1, none⟩) hB3).trans hS0.2.1
        have a2 := (hb4.cell (p := ⟨B, 2, none⟩) hB3).trans hS0.2.2
        have p1 := (hb4.cell (p := ⟨q, 1, none⟩) hq3).trans q1
        have p0 := (hb4.cell (p := ⟨q, 0, none⟩) hq3).trans q0
        have p2 := (hb4.cell (p := ⟨q, 2, none⟩) hq3).trans q2
        have x0 := (hb4.frozen (p := ⟨q, 0, none⟩) hq3).trans y0
        have x1 := (hb4.frozen (p := ⟨q, 1, none⟩) hq3).trans y1
        have x2 := (hb4.frozen (p := ⟨q, 2, none⟩) hq3).trans y2
        have ho4 := own_below (World.ownsRow.drew ho3) hb4
        have hr4 := (show ResC W3.drew (B + 1) from ⟨hr3.c0, hr3.c1, hr3.c2, hr3.z0, hr3.z1, hr3.z2, hr3.lt⟩).below hb4
        have hb04 : Below w.heap.size w w4 := hb03.drew.trans (hb4.mono hb03.size)
        have hs4 : W3.heap.size ≤ w4.heap.size := hb4.size
        refine hK.out _ _ ⟨a0, a1, a2⟩ (fun _ => ?_)
        clear hK K hS0 o0 o1 o2 q0 q1 q2 y0 y1 y2 ho3 hr3 hb4
        refine wpAnyH_only 4 (by kernel_rfl) rfl (fun K hK => ?_)
        rw [if_pos (by rfl)]
        obtain ⟨i, hi, hz, h2, h3⟩ := elem_bytes.info
        refine wp_append_own w4 _ _ 63 rfl w1.heap.size 5 i _ 1 1 elem_bytes.under hi hz h2 h3 elem_bytes.zsize elem_bytes.pos _ _ _ rfl ho4 p4 x.2.length cap4 (digs x.2) rfl (by simp [digs]) (digs_cells hB4) (digs_one x.2)
            (by unfold maxLen; have := decL_short 9 r (by omega); omega) (by have := decL_short 9 r (by omega); omega) (by have := HQ.out; omega) ?_
        intro v5 w5 ho5 hg5 _
        have hBg : some B ≠ (Value.slice (some ⟨g2, 0, none⟩) (decL r).length cap2).ownBlock := fun e => by simp [Value.ownBlock] at e; have := HBq.out; omega
        have hqg : some q ≠ (Value.slice (some ⟨g2, 0, none⟩) (decL r).length cap2).ownBlock := fun e => by simp [Value.ownBlock] at e; have := HQ.out; omega
        have hBg1 : some (B + 1) ≠ (Value.slice (some ⟨g2, 0, none⟩) (decL r).length cap2).ownBlock := fun e => by
          simp [Value.ownBlock] at e
          have hb1 := hr1lt.out
          have := HBq.out
          omega
        have hpos : 0 < (decL r).length + x.2.length := by have := List.length_pos_iff.2 (decL_ne r); omega
        obtain ⟨g5, cap5, rfl, hg51, hg52, _⟩ := own_some ho5 hpos
        have b0 := hg5.cell a0 hBg
        have b1 := hg5.cell a1 hBg
        have b2 := hg5.cell a2 hBg
        have r0 := hg5.cell p0 hqg
        have r1 := hg5.cell p1 hqg
        have r2 := hg5.cell p2 hqg
        have hq4 : q < w4.heap.size := World.block_lt_of_cell? w4 _ p0
        have f0 := (World.frozen?_of_block (a := ⟨q, 0, none⟩) (hg5.block q hq4 hqg)).trans x0
        have f1 := (World.frozen?_of_block (a := ⟨q, 1, none⟩) (hg5.block q hq4 hqg)).trans x1
        have f2 := (World.frozen?_of_block (a := ⟨q, 2, none⟩) (hg5.block q hq4 hqg)).trans x2
        have hr5 := hr4.grown hg5 hBg1
        have hb05 : Below w.heap.size w w5 := hb04.grown hg5 hb04.size (fun k hk => by have hk2 : g2 = k := Option.some.inj hk; have := hg2.1; omega)
        have hBq1 : B + 1 < q := by have := hr1lt.out; have := HBq.out; have := HQ.out; omega
        have hBw : w.heap.size ≤ B := by have := HBq.out; omega
        simp only [Act.put, List.setIfInBounds_toArray, List.set_cons_zero, List.set_cons_succ]
        refine hK.out _ _ ⟨b0, b1, b2⟩ (fun _ => ?_)
        clear hK K a0 a1 a2 p0 p1 p2 x0 x1 x2 hr4 hb04 ho4 hB4 hg5 hBg hqg hBg1 hi hz
        refine wpAnyH_more [7] 3 rfl (by intro _ _ d _ _ h; cases d <;> exact h) (by kernel_rfl) (by kernel_rfl) ⟨b0, b1, b2⟩ ?_
        (iterate 1 (first | (refine takes_yes (v := ?_) rfl (by rfl) ?_ ?_; rotate_left; (focus ((intro w' hS'; (try dsimp only at hS'); go_simp; try (with_reducible rfl)); done)); (try simp only [Act.put, List.setIfInBounds_toArray, List.set_cons_zero, List.set_cons_succ])) | (refine takes_no rfl (by rfl) ?_; (try simp only [Act.put, List.setIfInBounds_toArray, List.set_cons_zero, List.set_cons_succ]))))
        refine takes_nil ?_
        refine wpAnyH_only 8 (by kernel_rfl) rfl (fun K hK => ?_)
        go_simp
        have hne1 : ¬ q = B := by omega
        refine hK.out _ _ ⟨by rw [World.cell?_setCell_other (h := by first | (simp; done) | (simp; omega))]; exact b0, by rw [World.cell?_setCell_other (h := by first | (simp; done) | (simp; omega))]; exact b1, by rw [World.cell?_setCell_other (h := by first | (simp; done) | (simp; omega))]; exact b2⟩ (fun _ => ?_)
        clear hK K
        have t0 : (w5.setCell ⟨q, 1, none⟩ (.slice (some ⟨g5, 0, none⟩) ((decL r).length + x.2.length) cap5)).cell? ⟨q, 0, none⟩ = some (.bool false) := by rw [World.cell?_setCell_other (h := by simp)]; exact r0
        have t1 : (w5.setCell ⟨q, 1, none⟩ (.slice (some ⟨g5, 0, none⟩) ((decL r).length + x.2.length) cap5)).cell? ⟨q, 1, none⟩ = some (.slice (some ⟨g5, 0, none⟩) ((decL r).length + x.2.length) cap5) := by rw [World.cell?_setCell_same (h := r1)]
        have t2 : (w5.setCell ⟨q, 1, none⟩ (.slice (some ⟨g5, 0, none⟩) ((decL r).length + x.2.length) cap5)).cell? ⟨q, 2, none⟩ = some (.int .i64 0) := by rw [World.cell?_setCell_other (h := by simp)]; exact r2
        have u2 : (w5.setCell ⟨q, 1, none⟩ (.slice (some ⟨g5, 0, none⟩) ((decL r).length + x.2.length) cap5)).frozen? ⟨q, 2, none⟩ = false := by simpa using f2
        have c0 : (w5.setCell ⟨q, 1, none⟩ (.slice (some ⟨g5, 0, none⟩) ((decL r).length + x.2.length) cap5)).cell? ⟨B, 0, none⟩ = some (.bool b) := by rw [World.cell?_setCell_other (h := by first | (simp; done) | (simp; omega))]; exact b0
        have c1 : (w5.setCell ⟨q, 1, none⟩ (.slice (some ⟨g5, 0, none⟩) ((decL r).length + x.2.length) cap5)).cell? ⟨B, 1, none⟩ = some (.slice (some ⟨g, 0, none⟩) (x.1.length + x.2.length) cap) := by rw [World.cell?_setCell_other (h := by first | (simp; done) | (simp; omega))]; exact b1
        have c2 : (w5.setCell ⟨q, 1, none⟩ (.slice (some ⟨g5, 0, none⟩) ((decL r).length + x.2.length) cap5)).cell? ⟨B, 2, none⟩ = some (.int .i64 x.2.length) := by rw [World.cell?_setCell_other (h := by first | (simp; done) | (simp; omega))]; exact b2
        have hr6 := hr5.set (a := ⟨q, 1, none⟩) (by show q ≠ B + 1; omega) (.slice (some ⟨g5, 0, none⟩) ((decL r).length + x.2.length) cap5)
        have hb06 := hb05.setCell (p := ⟨q, 1, none⟩) (show w.heap.size ≤ q by omega) (.slice (some ⟨g5, 0, none⟩) ((decL r).length + x.2.length) cap5)
        have hg5q : g5 ≠ q := fun e => by
          subst e
          exact own_not_bool ho5 (decL_ne r) r0
        have ho6 := own_set (p := ⟨q, 1, none⟩) ho5 (fun e => hg5q (by simpa [Value.ownBlock, eq_comm] using e)) (.slice (some ⟨g5, 0, none⟩) ((decL r).length + x.2.length) cap5)
        clear b0 b1 b2 r0 r1 r2 f0 f1 f2 hr5 hb05 ho5
        generalize w5.setCell ⟨q, 1, none⟩ (.slice (some ⟨g5, 0, none⟩) ((decL r).length + x.2.length) cap5) = w6 at *
        refine wpAnyH_more [9] 1 rfl (by intro _ _ d _ _ h; cases d <;> exact h) (by kernel_rfl) (by kernel_rfl) ⟨c0, c1, c2⟩ ?_
        (iterate 1 (first | (refine takes_yes (v := ?_) rfl (by rfl) ?_ ?_; rotate_left; (focus ((intro w' hS'; (try dsimp only at hS'); go_simp; try (with_reducible rfl)); done)); (try simp only [Act.put, List.setIfInBounds_toArray, List.set_cons_zero, List.set_cons_succ])) | (refine takes_no rfl (by rfl) ?_; (try simp only [Act.put, List.setIfInBounds_toArray, List.set_cons_zero, List.set_cons_succ]))))
        refine takes_nil ?_
        refine wpAnyH_only 10 (by kernel_rfl) rfl (fun K hK => ?_)
        go_simp
        refine hK.out _ _ ⟨by rw [World.cell?_setCell_other (h := by first | (simp; done) | (simp; omega))]; exact c0, by rw [World.cell?_setCell_other (h := by first | (simp; done) | (simp; omega))]; exact c1, by rw [World.cell?_setCell_other (h := by first | (simp; done) | (simp; omega))]; exact c2⟩ (fun _ => ?_)
        clear hK K
        have d0 : (w6.setCell ⟨q, 2, none⟩ (.int .i64 x.2.length)).cell? ⟨q, 0, none⟩ = some (.bool false) := by rw [World.cell?_setCell_other (h := by simp)]; exact t0
        have d1 : (w6.setCell ⟨q, 2, none⟩ (.int .i64 x.2.length)).cell? ⟨q, 1, none⟩ = some (.slice (some ⟨g5, 0, none⟩) ((decL r).length + x.2.length) cap5) := by rw [World.cell?_setCell_other (h := by simp)]; exact t1
        have d2 : (w6.setCell ⟨q, 2, none⟩ (.int .i64 x.2.length)).cell? ⟨q, 2, none⟩ = some (.int .i64 x.2.length) := by rw [World.cell?_setCell_same (h := t2)]
        have hr7 := hr6.set (a := ⟨q, 2, none⟩) (by show q ≠ B + 1; omega) (.int .i64 x.2.length)
        have hb07 := hb06.setCell (p := ⟨q, 2, none⟩) (show w.heap.size ≤ q by omega) (.int .i64 x.2.length)
        have ho7 := own_set (p := ⟨q, 2, none⟩) ho6 (fun e => hg5q (by simpa [Value.ownBlock, eq_comm] using e)) (.int .i64 x.2.length)
        clear t0 t1 t2 u2 c0 c1 c2 hr6 hb06 ho6
        generalize w6.setCell ⟨q, 2, none⟩ (.int .i64 x.2.length) = w7 at *
        refine wpAnyH_done (by kernel_rfl) ?_ _
        have e0 := hr7.c0
        have e1 := hr7.c1
        have e2 := hr7.c2
        have z0 := hr7.z0
        have z1 := hr7.z1
        have z2 := hr7.z2
        have HO7 := Lib.hid ho7
        have HR7 := Lib.hid hr7
        clear ho7 hr7
        go_wp2
        refine bodyPost_ret (v := .agg #[.bool false, .slice (some ⟨g5, 0, none⟩) ((decL r).length + x.2.length) cap5, .int .i64 x.2.length]) ?_ rfl ?_
        · simp [results, Tryz.results96, go_sem, e0, e1, e2]
        rw [← HR.out]
        refine num_store (w := w) ?_ HR7.out (by omega) hb07
        have hdd : digs (decL r) ++ digs x.2 = digs (decL r ++ x.2) := by simp [digs]
        have ho8 := HO7.out
        rw [hdd] at ho8
        have hsz := decL_short 9 r (by omega)
        exact num_own (w := w) (x := (decL r, x.2)) rfl (by simp) (own_mono ho8 (by omega)) ⟨decL_dig r, HO.out.dig2, decL_ne r, by show (decL r).length ≤ 100; omega, hl2⟩
      · skip
        go_simp
        refine (frac_num2 _ x _ (HH.out.below hb03.drew)).mono ?_
        rintro e w4 ⟨⟨p4, cap4, rfl, hc3, hc4, hB4⟩, hb4⟩
        have hB3 : B < W3.heap.size := World.block_lt_of_cell? W3 _ o0
        have hq3 : q < W3.heap.size := World.block_lt_of_cell? W3 _ q1
        have a0 := (hb4.cell (p := ⟨B, 0, none⟩) hB3).trans hS0.1
        have a1 := (hb4.cell (p := ⟨B, 1, none⟩) hB3).trans hS0.2.1
        have a2 := (hb4.cell (p := ⟨B, 2, none⟩) hB3).trans hS0.2.2
        have p1 := (hb4.cell (p := ⟨q, 1, none⟩) hq3).trans q1
        have p0 := (hb4.cell (p := ⟨q, 0, none⟩) hq3).trans q0
        have p2 := (hb4.cell (p := ⟨q, 2, none⟩) hq3).trans q2
        have x0 := (hb4.frozen (p := ⟨q, 0, none⟩) hq3).trans y0
        have x1 := (hb4.frozen (p := ⟨q, 1, none⟩) hq3).trans y1
        have x2 := (hb4.frozen (p := ⟨q, 2, none⟩) hq3).trans y2
        have ho4 := own_below (World.ownsRow.drew ho3) hb4
        have hr4 := (show ResC W3.drew (B + 1) from ⟨hr3.c0, hr3.c1, hr3.c2, hr3.z0, hr3.z1, hr3.z2, hr3.lt⟩).below hb4
        have hb04 : Below w.heap.size w w4 := hb03.drew.trans (hb4.mono hb03.size)
        have hs4 : W3.heap.size ≤ w4.heap.size := hb4.size
        refine hK.out _ _ ⟨a0, a1, a2⟩ (fun _ => ?_)
        clear hK K hS0 o0 o1 o2 q0 q1 q2 y0 y1 y2 ho3 hr3 hb4
        refine wpAnyH_only 1 (by kernel_rfl) rfl (fun K hK => ?_)
        go_simp
        refine hK.out _ _ ⟨a0, a1, a2⟩ (fun _ => ?_)
        clear hK K
        refine wpAnyH_only 4 (by kernel_rfl) rfl (fun K hK => ?_)
        rw [if_pos (by rfl)]
        obtain ⟨i, hi, hz, h2, h3⟩ := elem_bytes.info
        refine wp_append_own w4 _ _ 63 rfl w1.heap.size 5 i _ 1 1 elem_bytes.under hi hz h2 h3 elem_bytes.zsize elem_bytes.pos _ _ _ rfl ho4 p4 x.2.length cap4 (digs x.2) rfl (by simp [digs]) (digs_cells hB4) (digs_one x.2)
            (by unfold maxLen; have := decL_short 9 r (by omega); omega) (by have := decL_short 9 r (by omega); omega) (by have := HQ.out; omega) ?_
        intro v5 w5 ho5 hg5 _
        have hBg : some B ≠ (Value.slice (some ⟨g2, 0, none⟩) (decL r).length cap2).ownBlock := fun e => by simp [Value.ownBlock] at e; have := HBq.out; omega
        have hqg : some q ≠ (Value.slice (some ⟨g2, 0, none⟩) (decL r).length cap2).ownBlock := fun e => by simp [Value.ownBlock] at e; have := HQ.out; omega
        have hBg1 : some (B + 1) ≠ (Value.slice (some ⟨g2, 0, none⟩) (decL r).length cap2).ownBlock := fun e => by
          simp [Value.ownBlock] at e
          have hb1 := hr1lt.out
          have := HBq.out
          omega
        have hpos : 0 < (decL r).length + x.2.length := by have := List.length_pos_iff.2 (decL_ne r); omega
        obtain ⟨g5, cap5, rfl, hg51, hg52, _⟩ := own_some ho5 hpos
        have b0 := hg5.cell a0 hBg
        have b1 := hg5.cell a1 hBg
        have b2 := hg5.cell a2 hBg
        have r0 := hg5.cell p0 hqg
        have r1 := hg5.cell p1 hqg
        have r2 := hg5.cell p2 hqg
        have hq4 : q < w4.heap.size := World.block_lt_of_cell? w4 _ p0
        have f0 := (World.frozen?_of_block (a := ⟨q, 0, none⟩) (hg5.block q hq4 hqg)).trans x0
        have f1 := (World.frozen?_of_block (a := ⟨q, 1, none⟩) (hg5.block q hq4 hqg)).trans x1
        have f2 := (World.frozen?_of_block (a := ⟨q, 2, none⟩) (hg5.block q hq4 hqg)).trans x2
        have hr5 := hr4.grown hg5 hBg1
        have hb05 : Below w.heap.size w w5 := hb04.grown hg5 hb04.size (fun k hk => by have hk2 : g2 = k := Option.some.inj hk; have := hg2.1; omega)
        have hBq1 : B + 1 < q := by have := hr1lt.out; have := HBq.out; have := HQ.out; omega
        have hBw : w.heap.size ≤ B := by have := HBq.out; omega
        simp only [Act.put, List.setIfInBounds_toArray, List.set_cons_zero, List.set_cons_succ]
        refine hK.out _ _ ⟨b0, b1, b2⟩ (fun _ => ?_)
        clear hK K a0 a1 a2 p0 p1 p2 x0 x1 x2 hr4 hb04 ho4 hB4 hg5 hBg hqg hBg1 hi hz
        refine wpAnyH_more [7] 3 rfl (by intro _ _ d _ _ h; cases d <;> exact h) (by kernel_rfl) (by kernel_rfl) ⟨b0, b1, b2⟩ ?_
        (iterate 1 (first | (refine takes_yes (v := ?_) rfl (by rfl) ?_ ?_; rotate_left; (focus ((intro w' hS'; (try dsimp only at hS'); go_simp; try (with_reducible rfl)); done)); (try simp only [Act.put, List.setIfInBounds_toArray, List.set_cons_zero, List.set_cons_succ])) | (refine takes_no rfl (by rfl) ?_; (try simp only [Act.put, List.setIfInBounds_toArray, List.set_cons_zero, List.set_cons_succ]))))
        refine takes_nil ?_
        refine wpAnyH_only 8 (by kernel_rfl) rfl (fun K hK => ?_)
        go_simp
        have hne1 : ¬ q = B := by omega
        refine hK.out _ _ ⟨by rw [World.cell?_setCell_other (h := by first | (simp; done) | (simp; omega))]; exact b0, by rw [World.cell?_setCell_other (h := by first | (simp; done) | (simp; omega))]; exact b1, by rw [World.cell?_setCell_other (h := by first | (simp; done) | (simp; omega))]; exact b2⟩ (fun _ => ?_)
        clear hK K
        have t0 : (w5.setCell ⟨q, 1, none⟩ (.slice (some ⟨g5, 0, none⟩) ((decL r).length + x.2.length) cap5)).cell? ⟨q, 0, none⟩ = some (.bool false) := by rw [World.cell?_setCell_other (h := by simp)]; exact r0
        have t1 : (w5.setCell ⟨q, 1, none⟩ (.slice (some ⟨g5, 0, none⟩) ((decL r).length + x.2.length) cap5)).cell? ⟨q, 1, none⟩ = some (.slice (some ⟨g5, 0, none⟩) ((decL r).length + x.2.length) cap5) := by rw [World.cell?_setCell_same (h := r1)]
        have t2 : (w5.setCell ⟨q, 1, none⟩ (.slice (some ⟨g5, 0, none⟩) ((decL r).length + x.2.length) cap5)).cell? ⟨q, 2, none⟩ = some (.int .i64 0) := by rw [World.cell?_setCell_other (h := by simp)]; exact r2
        have u2 : (w5.setCell ⟨q, 1, none⟩ (.slice (some ⟨g5, 0, none⟩) ((decL r).length + x.2.length) cap5)).frozen? ⟨q, 2, none⟩ = false := by simpa using f2
        have c0 : (w5.setCell ⟨q, 1, none⟩ (.slice (some ⟨g5, 0, none⟩) ((decL r).length + x.2.length) cap5)).cell? ⟨B, 0, none⟩ = some (.bool b) := by rw [World.cell?_setCell_other (h := by first | (simp; done) | (simp; omega))]; exact b0
        have c1 : (w5.setCell ⟨q, 1, none⟩ (.slice (some ⟨g5, 0, none⟩) ((decL r).length + x.2.length) cap5)).cell? ⟨B, 1, none⟩ = some (.slice (some ⟨g, 0, none⟩) (x.1.length + x.2.length) cap) := by rw [World.cell?_setCell_other (h := by first | (simp; done) | (simp; omega))]; exact b1
        have c2 : (w5.setCell ⟨q, 1, none⟩ (.slice (some ⟨g5, 0, none⟩) ((decL r).length + x.2.length) cap5)).cell? ⟨B, 2, none⟩ = some (.int .i64 x.2.length) := by rw [World.cell?_setCell_other (h := by first | (simp; done) | (simp; omega))]; exact b2
        have hr6 := hr5.set (a := ⟨q, 1, none⟩) (by show q ≠ B + 1; omega) (.slice (some ⟨g5, 0, none⟩) ((decL r).length + x.2.length) cap5)
        have hb06 := hb05.setCell (p := ⟨q, 1, none⟩) (show w.heap.size ≤ q by omega) (.slice (some ⟨g5, 0, none⟩) ((decL r).length + x.2.length) cap5)
        have hg5q : g5 ≠ q := fun e => by
          subst e
          exact own_not_bool ho5 (decL_ne r) r0
        have ho6 := own_set (p := ⟨q, 1, none⟩) ho5 (fun e => hg5q (by simpa [Value.ownBlock, eq_comm] using e)) (.slice (some ⟨g5, 0, none⟩) ((decL r).length + x.2.length) cap5)
        clear b0 b1 b2 r0 r1 r2 f0 f1 f2 hr5 hb05 ho5
        generalize w5.setCell ⟨q, 1, none⟩ (.slice (some ⟨g5, 0, none⟩) ((decL r).length + x.2.length) cap5) = w6 at *
        refine wpAnyH_more [9] 1 rfl (by intro _ _ d _ _ h; cases d <;> exact h) (by kernel_rfl) (by kernel_rfl) ⟨c0, c1, c2⟩ ?_
        (iterate 1 (first | (refine takes_yes (v := ?_) rfl (by rfl) ?_ ?_; rotate_left; (focus ((intro w' hS'; (try dsimp only at hS'); go_simp; try (with_reducible rfl)); done)); (try simp only [Act.put, List.setIfInBounds_toArray, List.set_cons_zero, List.set_cons_succ])) | (refine takes_no rfl (by rfl) ?_; (try simp only [Act.put, List.setIfInBounds_toArray, List.set_cons_zero, List.set_cons_succ]))))
        refine takes_nil ?_
        refine wpAnyH_only 10 (by kernel_rfl) rfl (fun K hK => ?_)
        go_simp
        refine hK.out _ _ ⟨by rw [World.cell?_setCell_other (h := by first | (simp; done) | (simp; omega))]; exact c0, by rw [World.cell?_setCell_other (h := by first | (simp; done) | (simp; omega))]; exact c1, by rw [World.cell?_setCell_other (h := by first | (simp; done) | (simp; omega))]; exact c2⟩ (fun _ => ?_)
        clear hK K
        have d0 : (w6.setCell ⟨q, 2, none⟩ (.int .i64 x.2.length)).cell? ⟨q, 0, none⟩ = some (.bool false) := by rw [World.cell?_setCell_other (h := by simp)]; exact t0
        have d1 : (w6.setCell ⟨q, 2, none⟩ (.int .i64 x.2.length)).cell? ⟨q, 1, none⟩ = some (.slice (some ⟨g5, 0, none⟩) ((decL r).length + x.2.length) cap5) := by rw [World.cell?_setCell_other (h := by simp)]; exact t1
        have d2 : (w6.setCell ⟨q, 2, none⟩ (.int .i64 x.2.length)).cell? ⟨q, 2, none⟩ = some (.int .i64 x.2.length) := by rw [World.cell?_setCell_same (h := t2)]
        have hr7 := hr6.set (a := ⟨q, 2, none⟩) (by show q ≠ B + 1; omega) (.int .i64 x.2.length)
        have hb07 := hb06.setCell (p := ⟨q, 2, none⟩) (show w.heap.size ≤ q by omega) (.int .i64 x.2.length)
        have ho7 := own_set (p := ⟨q, 2, none⟩) ho6 (fun e => hg5q (by simpa [Value.ownBlock, eq_comm] using e)) (.int .i64 x.2.length)
        clear t0 t1 t2 u2 c0 c1 c2 hr6 hb06 ho6
        generalize w6.setCell ⟨q, 2, none⟩ (.int .i64 x.2.length) = w7 at *
        refine wpAnyH_done (by kernel_rfl) ?_ _
        have e0 := hr7.c0
        have e1 := hr7.c1
        have e2 := hr7.c2
        have z0 := hr7.z0
        have z1 := hr7.z1
        have z2 := hr7.z2
        have HO7 := Lib.hid ho7
        have HR7 := Lib.hid hr7
        clear ho7 hr7
        go_wp2
        refine bodyPost_ret (v := .agg #[.bool false, .slice (some ⟨g5, 0, none⟩) ((decL r).length + x.2.length) cap5, .int .i64 x.2.length]) ?_ rfl ?_
        · simp [results, Tryz.results96, go_sem, e0, e1, e2]
        rw [← HR.out]
        refine num_store (w := w) ?_ HR7.out (by omega) hb07
        have hdd : digs (decL r) ++ digs x.2 = digs (decL r ++ x.2) := by simp [digs]
        have ho8 := HO7.out
        rw [hdd] at ho8
        have hsz := decL_short 9 r (by omega)
        exact num_own (w := w) (x := (decL r, x.2)) rfl (by simp) (own_mono ho8 (by omega)) ⟨decL_dig r, HO.out.dig2, decL_ne r, by show (decL r).length ≤ 100; omega, hl2⟩
end Go.Proofs.YtpepgmccbkkaaaaGreatDoor

/- Tests as function values; spans. -/
namespace Go.Proofs.YtpepgmccbkkaaaaGreatDoor
open Go Go.RowKit
set_option maxRecDepth 10000

/-- blocks from lo to hi are as they were -/
def KeepR (lo hi : Nat) (w W : World) : Prop := hi ≤ W.heap.size ∧ ∀ k, lo ≤ k → k < hi → W.heap[k]? = w.heap[k]?

theorem KeepR.below {lo hi : Nat} {w W W' : World} (h : KeepR lo hi w W) (hb : Below W.heap.size W W') : KeepR lo hi w W' :=
  ⟨Nat.le_trans h.1 hb.size, fun k h1 h2 => (hb.block k (Nat.lt_of_lt_of_le h2 h.1)).trans (h.2 k h1 h2)⟩
theorem KeepR.cell {lo hi : Nat} {w W : World} (h : KeepR lo hi w W) {p : Addr} (h1 : lo ≤ p.block) (h2 : p.block < hi) : W.cell? p = w.cell? p := World.cell?_of_block (w := w) (h.2 p.block h1 h2)
/-- a world between -/
theorem KeepR.via {lo hi lo' hi' : Nat} {w w' W : World} (h : KeepR lo' hi' w' W) (hk : KeepR lo hi w w') (h1 : lo' ≤ lo) (h2 : hi ≤ hi') : KeepR lo hi w W :=
  ⟨Nat.le_trans h2 h.1, fun k a b => (h.2 k (by omega) (by omega)).trans (hk.2 k a b)⟩

/-- a function value that tests numbers; it hangs on the blocks from lo to hi alone -/
def TestR (lo hi : Nat) (w : World) (v : Value) (T : Tst) : Prop :=
  ∃ k cap, v = .func (.func k) #[] cap ∧ (∀ args w, (callFunc k args).run Tryz.prog w = .ok (.enter k args) w) ∧
    ∀ W, KeepR lo hi w W → ∀ nv x, NumV W nv x → Calls Tryz.prog k (#[nv] ++ cap) W fun e W' => e = .returned (.bool (T x)) ∧ Below W.heap.size W W'

/-- a function value that makes numbers of numbers -/
def OpR (lo hi : Nat) (w : World) (v : Value) (F : Dg → Dg) : Prop :=
  ∃ k cap, v = .func (.func k) #[] cap ∧ (∀ args w, (callFunc k args).run Tryz.prog w = .ok (.enter k args) w) ∧
    ∀ W, KeepR lo hi w W → ∀ nv x, NumV W nv x → Calls Tryz.prog k (#[nv] ++ cap) W (NumPost' (F x) W)

theorem TestR.keep {lo hi lo' hi' : Nat} {w w' : World} {v : Value} {T : Tst} (h : TestR lo hi w v T) (hk : KeepR lo hi w w') (h1 : lo' ≤ lo) (h2 : hi ≤ hi') : TestR lo' hi' w' v T := by
  obtain ⟨k, cap, hv, he, hc⟩ := h
  exact ⟨k, cap, hv, he, fun W hW => hc W (hW.via hk h1 h2)⟩
theorem OpR.keep {lo hi lo' hi' : Nat} {w w' : World} {v : Value} {F : Dg → Dg} (h : OpR lo hi w v F) (hk : KeepR lo hi w w') (h1 : lo' ≤ lo) (h2 : hi ≤ hi') : OpR lo' hi' w' v F := by
  obtain ⟨k, cap, hv, he, hc⟩ := h
  exact ⟨k, cap, hv, he, fun W hW => hc W (hW.via hk h1 h2)⟩

theorem keep_refl {lo hi : Nat} {w : World} (h : hi ≤ w.heap.size) : KeepR lo hi w w := ⟨h, fun _ _ _ => rfl⟩
theorem keep_below {lo hi B : Nat} {w w' : World} (h : Below B w w') (hb : hi ≤ B) (h2 : hi ≤ w.heap.size) : KeepR lo hi w w' := ⟨Nat.le_trans h2 h.size, fun k _ hk => h.block k (by omega)⟩

set_option maxHeartbeats 1000000 in
theorem span1_any (v : Value) (x : Dg) (a b : Nat) (br : Bool) (pa pb pc : Nat) (w : World) (h : NumV w v x) (ha : a ≤ 1000000000) (hb : b ≤ 1000000000) (ca : w.cell? ⟨pa, 0, none⟩ = some (.int .i64 a)) (cb : w.cell? ⟨pb, 0, none⟩ = some (.int .i64 b)) (cc : w.cell? ⟨pc, 0, none⟩ = some (.bool br)) :
    Calls Tryz.prog 125 #[v, .pointer (some ⟨pa, 0, none⟩), .pointer (some ⟨pb, 0, none⟩), .pointer (some ⟨pc, 0, none⟩)] w fun e w' => e = .returned (.bool (spanT a b br x)) ∧ Below w.heap.size w w' := by
  have hC := fun W m (hW : NumV W v x) (hm : m ≤ 1000000000) => compare_any v x m W hW hm
  have hK := fun W (hW : NumV W v x) => broken_any v x W hW
  obtain ⟨r, hr⟩ : ∃ r, spanT a b br x = r := ⟨_, rfl⟩
  rw [hr]
  unfold spanT at hr
  obtain ⟨c1, hc1⟩ : ∃ c, cmpT x a = c := ⟨_, rfl⟩
  obtain ⟨c2, hc2⟩ : ∃ c, cmpT x b = c := ⟨_, rfl⟩
  obtain ⟨k, hk⟩ : ∃ k, brk x.2 = k := ⟨_, rfl⟩
  have h1 := fun W (hW : NumV W v x) => hC W a hW ha
  have h2 := fun W (hW : NumV W v x) => hC W b hW hb
  rw [hc1, hc2, hk] at hr
  simp only [hc1] at h1
  simp only [hc2] at h2
  simp only [hk] at hK
  have H1 := Lib.hid h1
  have H2 := Lib.hid h2
  have HK := Lib.hid hK
  have HH := Lib.hid h
  have HR := Lib.hid hr
  obtain ⟨b', g, cap, rfl, _, _, _, _, _⟩ := h
  clear hC hK h1 h2 hr hc1 hc2 hk
  have F : ∃ W, W = w.alloc (.cells #[.bool b', .slice (some ⟨g, 0, none⟩) (x.1.length + x.2.length) cap, .int .i64 x.2.length] 65) ∧ Below w.heap.size w W ∧ W.heap.size = w.heap.size + 1 ∧ W.cell? ⟨w.heap.size, 0, none⟩ = some (.bool b') ∧ W.cell? ⟨w.heap.size, 1, none⟩ = some (.slice (some ⟨g, 0, none⟩) (x.1.length + x.2.length) cap) ∧ W.cell? ⟨w.heap.size, 2, none⟩ = some (.int .i64 x.2.length) ∧
      W.cell? ⟨pa, 0, none⟩ = some (.int .i64 a) ∧ W.cell? ⟨pb, 0, none⟩ = some (.int .i64 b) ∧ W.cell? ⟨pc, 0, none⟩ = some (.bool br) :=
    ⟨_, rfl, (Below.refl _ _).alloc (Nat.le_refl _) _, by simp, by go_simp, by go_simp, by go_simp, by rw [World.cell?_alloc_some _ _ _ (by rw [ca]; rfl)]; exact ca, by rw [World.cell?_alloc_some _ _ _ (by rw [cb]; rfl)]; exact cb, by rw [World.cell?_alloc_some _ _ _ (by rw [cc]; rfl)]; exact cc⟩
  obtain ⟨W, hW, hbW, hs, d0, d1, d2, da, db, dc⟩ := F
  have HNW := Lib.hid (HH.out.below hbW)
  rw [hW] at da db dc
  go_enter Tryz.func125, Tryz.ntmps125
  go_wp2_with fail
  rw [← hW] at da db dc ⊢
  clear hW ca cb cc
  refine (H1.out _ HNW.out).mono ?_
  rintro e w1 ⟨rfl, hb1⟩
  have hlt : w.heap.size < W.heap.size := by omega
  have e0 := (hb1.cell (p := ⟨w.heap.size, 0, none⟩) hlt).trans d0
  have e1 := (hb1.cell (p := ⟨w.heap.size, 1, none⟩) hlt).trans d1
  have e2 := (hb1.cell (p := ⟨w.heap.size, 2, none⟩) hlt).trans d2
  have eb := (hb1.cell (p := ⟨pb, 0, none⟩) (World.block_lt_of_cell? W _ db)).trans db
  have ec := (hb1.cell (p := ⟨pc, 0, none⟩) (World.block_lt_of_cell? W _ dc)).trans dc
  have hbb1 : Below w.heap.size w w1 := hbW.trans (hb1.mono (by omega))
  have HN1 := Lib.hid (HNW.out.below hb1)
  have hlt1 : w.heap.size < w1.heap.size := World.block_lt_of_cell? w1 _ e0
  clear d0 d1 d2 da db dc hb1
  by_cases g1 : 0 ≤ c1
  · have g1' : decide (0 ≤ c1) = true := decide_eq_true g1
    have hr := HR.out
    rw [g1', Bool.true_and] at hr
    have HR1 := Lib.hid hr
    clear hr
    go_wp2_with fail
    refine (H2.out _ HN1.out).mono ?_
    rintro e w2 ⟨rfl, hb2⟩
    have f0 := (hb2.cell (p := ⟨w.heap.size, 0, none⟩) hlt1).trans e0
    have f1 := (hb2.cell (p := ⟨w.heap.size, 1, none⟩) hlt1).trans e1
    have f2 := (hb2.cell (p := ⟨w.heap.size, 2, none⟩) hlt1).trans e2
    have fc := (hb2.cell (p := ⟨pc, 0, none⟩) (World.block_lt_of_cell? w1 _ ec)).trans ec
    have hbb2 : Below w.heap.size w w2 := hbb1.trans (hb2.mono (by omega))
    have HN2 := Lib.hid (HN1.out.below hb2)
    clear e0 e1 e2 eb ec hb2
    by_cases g2 : c2 ≤ 0
    · have g2' : decide (c2 ≤ 0) = true := decide_eq_true g2
      have hr := HR1.out
      rw [g2', Bool.true_and] at hr
      have HR2 := Lib.hid hr
      clear hr
      cases br
      · go_wp2_with fail
        refine (HK.out _ HN2.out).mono ?_
        rintro e w3 ⟨rfl, hb3⟩
        have hbb3 : Below w.heap.size w w3 := hbb2.trans (hb3.mono hbb2.size)
        go_wp2
        go_ret
        exact ⟨by rw [← HR2.out]; rfl, hbb3⟩
      · go_wp2
        go_ret
        exact ⟨by rw [← HR2.out]; rfl, hbb2⟩
    · have g2' : decide (c2 ≤ 0) = false := decide_eq_false g2
      have hr := HR1.out
      rw [g2', Bool.false_and] at hr
      have HR2 := Lib.hid hr
      clear hr
      go_wp2
      go_ret
      exact ⟨by rw [← HR2.out]; rfl, hbb2⟩
  · have g1' : decide (0 ≤ c1) = false := decide_eq_false g1
    have hr := HR.out
    rw [g1', Bool.false_and] at hr
    have HR1 := Lib.hid hr
    clear hr
    go_wp2
    go_ret
    exact ⟨by rw [← HR1.out]; rfl, hbb1⟩

set_option maxHeartbeats 1000000 in
theorem span_any (a b : Nat) (br : Bool) (w : World) (ha : a ≤ 1000000000) (hb : b ≤ 1000000000) :
    Calls Tryz.prog 117 #[.int .i64 a, .int .i64 b, .bool br] w fun e w' => (∃ v, e = .returned v ∧ TestR w.heap.size w'.heap.size w' v (spanT a b br)) ∧ Below w.heap.size w w' := by
  have hmf : ∀ (fn : Fn) (first cap : Array Value) (w : World), (Instr.makeFunc fn first cap).run Tryz.prog w = .ok (.func fn first cap) w := fun _ _ _ _ => rfl
  go_enter Tryz.func117, Tryz.ntmps117
  go_wp2
  go_ret
  have hs : (((w.alloc (.cells #[.int .i64 a] 3)).alloc (.cells #[.int .i64 b] 3)).alloc (.cells #[.bool br] 4)).heap.size = w.heap.size + 3 := by simp
  refine ⟨⟨_, rfl, 125, _, rfl, fun args w => enters_of Tryz.func125 (by kernel_rfl) rfl args w, fun W hW nv x hx => ?_⟩, (((Below.refl _ _).alloc (Nat.le_refl _) _).alloc (by simp) _).alloc (by simp; omega) _⟩
  refine span1_any nv x a b br _ _ _ W hx ha hb ((hW.cell (Nat.le_refl _) ?_).trans ?_) ((hW.cell ?_ ?_).trans ?_) ((hW.cell ?_ ?_).trans ?_)
  all_goals first | (show w.heap.size ≤ w.heap.size + 1; omega) | (show w.heap.size ≤ w.heap.size + 1 + 1; omega) | (rw [hs]; simp; done) | (rw [hs]; simp; omega) | (show w.heap.size ≤ _; simp; done) | (show w.heap.size ≤ _; omega) | (go_simp; done)


set_option maxHeartbeats 1000000 in
theorem some11_any (v : Value) (q : Nat) (w : World) (nv : Value) (x : Dg) (T : Tst) (lo hi : Nat) (h : TestR lo hi w v T) (hhi : hi ≤ w.heap.size) (hn : NumV w nv x) (cs : Array Value) (hcs : nv = .agg cs)
    (hc : ∀ j u, cs[j]? = some u → w.cell? ⟨q, j, none⟩ = some u) :
    Calls Tryz.prog 91 #[v, .pointer (some ⟨q, 0, none⟩)] w fun e w' => e = .returned (.bool (T x)) ∧ Below w.heap.size w w' := by
  have HN := Lib.hid hn
  obtain ⟨b, g, cap, n, k, rfl⟩ := hn.form
  cases hcs
  have c0 := hc 0 _ rfl
  have c1 := hc 1 _ rfl
  have c2 := hc 2 _ rfl
  obtain ⟨K, cp, rfl, hent, hcall⟩ := h
  have hW := hcall w (keep_refl hhi) _ x HN.out
  have HW := Lib.hid hW
  clear hcall hW hc
  go_enter Tryz.func91, Tryz.ntmps91
  go_wp2_with fail
  refine HW.out.mono ?_
  rintro e w1 ⟨rfl, hb⟩
  go_wp2
  go_ret
  exact ⟨rfl, hb⟩
end Go.Proofs.YtpepgmccbkkaaaaGreatDoor

/- plural's some and all: tests of tests. -/
namespace Go.Proofs.YtpepgmccbkkaaaaGreatDoor
open Go Go.RowKit
set_option maxRecDepth 10000

/-- values in memory -/
def ValsAt (w : World) (a : Option Addr) (vs : List Value) : Prop := ∀ j (h : j < vs.length), ∃ b, a = some b ∧ w.cell? (b.add j) = some vs[j]

theorem ValsAt.below {w w' : World} {a : Option Addr} {vs : List Value} (h : ValsAt w a vs) (hb : Below w.heap.size w w') : ValsAt w' a vs := fun j hj => by
  obtain ⟨b, h1, h2⟩ := h j hj
  exact ⟨b, h1, by rw [hb.cell (World.block_lt_of_cell? w _ h2)]; exact h2⟩

/-- tests in memory: they hang on the blocks from lo to hi alone -/
def TestsR (lo hi : Nat) (w : World) (a : Option Addr) (Ts : List Tst) : Prop :=
  ∀ j (h : j < Ts.length), ∃ b v, a = some b ∧ w.cell? (b.add j) = some v ∧ lo ≤ b.block ∧ b.block < hi ∧ TestR lo hi w v Ts[j]

theorem TestsR.keep {lo hi lo' hi' : Nat} {w w' : World} {a : Option Addr} {Ts : List Tst} (h : TestsR lo hi w a Ts) (hk : KeepR lo hi w w') (h1 : lo' ≤ lo) (h2 : hi ≤ hi') : TestsR lo' hi' w' a Ts := fun j hj => by
  obtain ⟨b, v, e1, e2, e3, e4, e5⟩ := h j hj
  exact ⟨b, v, e1, by rw [hk.cell (p := b.add j) (by rw [addr_add]; exact e3) (by rw [addr_add]; exact e4)]; exact e2, by omega, by omega, e5.keep hk h1 h2⟩

/-- a number's cells in a box -/
structure BoxN (w : World) (q : Nat) (nv : Value) : Prop where
  lt : q < w.heap.size
  cells : ∃ b s k, nv = .agg #[b, s, k] ∧ w.cell? ⟨q, 0, none⟩ = some b ∧ w.cell? ⟨q, 1, none⟩ = some s ∧ w.cell? ⟨q, 2, none⟩ = some k

theorem BoxN.below {w w' : World} {q : Nat} {nv : Value} (h : BoxN w q nv) (hb : Below w.heap.size w w') : BoxN w' q nv := by
  obtain ⟨hl, b, s, k, h1, h2, h3, h4⟩ := h
  exact ⟨Nat.lt_of_lt_of_le hl hb.size, b, s, k, h1, (hb.cell hl).trans h2, (hb.cell hl).trans h3, (hb.cell hl).trans h4⟩

theorem some11_box (v : Value) (q : Nat) (w : World) (nv : Value) (x : Dg) (T : Tst) (lo hi : Nat) (h : TestR lo hi w v T) (hhi : hi ≤ w.heap.size) (hn : NumV w nv x) (hb : BoxN w q nv) :
    Calls Tryz.prog 91 #[v, .pointer (some ⟨q, 0, none⟩)] w fun e w' => e = .returned (.bool (T x)) ∧ Below w.heap.size w w' := by
  obtain ⟨_, b, s, k, h1, h2, h3, h4⟩ := hb
  refine some11_any v q w nv x T lo hi h hhi hn #[b, s, k] h1 (fun j u hu => ?_)
  match j, hu with
  | 0, hu => cases hu; exact h2
  | 1, hu => cases hu; exact h3
  | 2, hu => cases hu; exact h4
  | n + 3, hu => simp at hu

theorem anyT_of {Ts : List Tst} {x : Dg} {k : Nat} (h : k < Ts.length) (hT : Ts[k] x = true) : someT Ts x = true := List.any_eq_true.2 ⟨Ts[k], List.getElem_mem h, hT⟩
theorem anyT_snoc {Ts : List Tst} {x : Dg} {k : Nat} (h : k < Ts.length) (h0 : someT (Ts.take k) x = false) (hT : Ts[k] x = false) : someT (Ts.take (k + 1)) x = false := by
  unfold someT at *
  rw [List.take_succ_eq_append_getElem h, List.any_append, h0]
  simp [hT]

set_option maxHeartbeats 1000000 in
theorem indexT_any (Ts : List Tst) (a : Option Addr) (c : Nat) (q : Nat) (nv : Value) (x : Dg) (lo hi : Nat) (w : World) (hl : Ts.length ≤ 1000000) (ht : TestsR lo hi w a Ts) (hhi : hi ≤ w.heap.size) (hn : NumV w nv x) (hb : BoxN w q nv) :
    Calls Tryz.prog 105 #[.slice a Ts.length c, .func (.func 91) #[] #[.pointer (some ⟨q, 0, none⟩)]] w
      fun e w' => (∃ n : Int, e = .returned (.int .i64 n) ∧ decide (0 ≤ n) = someT Ts x) ∧ Below w.heap.size w w' := by
  have HT := Lib.hid ht
  have HN := Lib.hid hn
  have HB := Lib.hid hb
  clear ht hn hb
  go_enter Tryz.func105, Tryz.ntmps105
  go_wp2
  go_loopw [8] (fun i wr => ∃ k : Nat, k ≤ Ts.length ∧ i = .int .i64 k ∧ someT (Ts.take k) x = false ∧ Below w.heap.size w wr) (fun i _ => Ts.length - (intOf i).toNat)
  case atStart => exact ⟨0, Nat.zero_le _, rfl, rfl, Below.refl _ _⟩
  case round =>
    obtain ⟨k, hk, rfl, hz, hbw⟩ := hrel
    have HZ := Lib.hid hz
    clear hz
    by_cases hlt : k < Ts.length
    · obtain ⟨b, v, rfl, hc, h1, h2, hT⟩ := HT.out k hlt
      have hc' : wr.cell? (b.add k) = some v := by rw [hbw.cell (World.block_lt_of_cell? w _ hc)]; exact hc
      have hkp := keep_below (lo := lo) hbw hhi hhi
      have hcall := some11_box v q wr nv x Ts[k] lo hi (hT.keep hkp (Nat.le_refl _) (Nat.le_refl _)) (Nat.le_trans hhi hbw.size) (HN.out.below hbw) (HB.out.below hbw)
      have HC := Lib.hid hcall
      clear hc hcall hT
      go_wp2_with fail
      refine HC.out.mono ?_
      rintro e w1 ⟨rfl, hb1⟩
      have hbb := hbw.trans (hb1.mono hbw.size)
      cases hTx : Ts[k] x
      · have HF := Lib.hid (anyT_snoc hlt HZ.out hTx)
        clear hTx
        go_wp2
        go_roundw
        case rel => exact ⟨k + 1, by omega, by go_num, HF.out, hbb⟩
        case measure => simp [intOf]; omega
      · have HF := Lib.hid (anyT_of hlt hTx)
        clear hTx
        go_wp2
        go_ret
        exact ⟨⟨_, rfl, by rw [HF.out]; simp⟩, hbb⟩
    · obtain rfl : k = Ts.length := by omega
      have hz := HZ.out
      rw [List.take_length] at hz
      have HF := Lib.hid hz
      clear hz HZ
      go_wp2
      go_ret
      exact ⟨⟨_, rfl, by rw [HF.out]; rfl⟩, hbw⟩

set_option maxHeartbeats 400000 in
theorem containsT_any (Ts : List Tst) (a : Option Addr) (c : Nat) (q : Nat) (nv : Value) (x : Dg) (lo hi : Nat) (w : World) (hl : Ts.length ≤ 1000000) (ht : TestsR lo hi w a Ts) (hhi : hi ≤ w.heap.size) (hn : NumV w nv x) (hb : BoxN w q nv) :
    Calls Tryz.prog 90 #[.slice a Ts.length c, .func (.func 91) #[] #[.pointer (some ⟨q, 0, none⟩)]] w
      fun e w' => e = .returned (.bool (someT Ts x)) ∧ Below w.heap.size w w' := by
  have hI := indexT_any Ts a c q nv x lo hi w hl ht hhi hn hb
  have HI := Lib.hid hI
  clear ht hn hb hI
  go_enter Tryz.func90, Tryz.ntmps90
  go_wp2_with fail
  refine HI.out.mono ?_
  rintro e w1 ⟨⟨n, rfl, hn⟩, hb⟩
  have HF := Lib.hid hn
  clear hn
  go_wp2
  go_ret
  exact ⟨by rw [← HF.out]; rfl, hb⟩

theorem box_num {w : World} {nv : Value} {x : Dg} (h : NumV w nv x) : ∃ b s k, nv = .agg #[b, s, k] := by
  obtain ⟨b, g, cap, n, k, e⟩ := h.form
  exact ⟨_, _, _, e⟩

set_option maxHeartbeats 1000000 in
theorem some1_any (Ts : List Tst) (a : Option Addr) (c : Nat) (pl : Nat) (nv : Value) (x : Dg) (lo hi : Nat) (w : World) (hl : Ts.length ≤ 1000000) (ht : TestsR lo hi w a Ts) (hhi : hi ≤ w.heap.size) (hn : NumV w nv x) (hc : w.cell? ⟨pl, 0, none⟩ = some (.slice a Ts.length c)) :
    Calls Tryz.prog 89 #[nv, .pointer (some ⟨pl, 0, none⟩)] w fun e w' => e = .returned (.bool (someT Ts x)) ∧ Below w.heap.size w w' := by
  have hmf : ∀ (fn : Fn) (first cap : Array Value) (w : World), (Instr.makeFunc fn first cap).run Tryz.prog w = .ok (.func fn first cap) w := fun _ _ _ _ => rfl
  have HN := Lib.hid hn
  obtain ⟨b', g, cap, n', k', rfl⟩ := hn.form
  have F : ∃ W, W = w.alloc (.cells #[.bool b', .slice (some ⟨g, 0, none⟩) n' cap, .int .i64 k'] 65) ∧ Below w.heap.size w W ∧ W.heap.size = w.heap.size + 1 ∧ BoxN W w.heap.size (.agg #[.bool b', .slice (some ⟨g, 0, none⟩) n' cap, .int .i64 k']) ∧ (w.alloc (.cells #[.bool b', .slice (some ⟨g, 0, none⟩) n' cap, .int .i64 k'] 65)).cell? ⟨pl, 0, none⟩ = some (.slice a Ts.length c) :=
    ⟨_, rfl, (Below.refl _ _).alloc (Nat.le_refl _) _, by simp, ⟨by simp, _, _, _, rfl, by go_simp, by go_simp, by go_simp⟩, by rw [World.cell?_alloc_some _ _ _ (by rw [hc]; rfl)]; exact hc⟩
  obtain ⟨W, hW, hbW, hs, hbx, dc⟩ := F
  have hC := containsT_any Ts a c w.heap.size _ x lo hi W hl (ht.keep (keep_below hbW hhi hhi) (Nat.le_refl _) (Nat.le_refl _)) (by omega) (HN.out.below hbW) hbx
  have HC := Lib.hid hC
  clear hC ht hn hbx
  go_enter Tryz.func89, Tryz.ntmps89
  go_wp2_with fail
  rw [← hW]
  refine HC.out.mono ?_
  rintro e w1 ⟨rfl, hb⟩
  have hbb : Below w.heap.size w w1 := hbW.trans (hb.mono (by omega))
  go_wp2
  go_ret
  exact ⟨rfl, hbb⟩

set_option maxHeartbeats 1000000 in
theorem some_any (Ts : List Tst) (a : Option Addr) (c : Nat) (lo : Nat) (w : World) (hl : Ts.length ≤ 1000000) (hlo : lo ≤ w.heap.size) (ht : TestsR lo w.heap.size w a Ts) :
    Calls Tryz.prog 70 #[.slice a Ts.length c] w fun e w' => (∃ v, e = .returned v ∧ TestR lo w'.heap.size w' v (someT Ts)) ∧ Below w.heap.size w w' := by
  have hmf : ∀ (fn : Fn) (first cap : Array Value) (w : World), (Instr.makeFunc fn first cap).run Tryz.prog w = .ok (.func fn first cap) w := fun _ _ _ _ => rfl
  have HT := Lib.hid ht
  clear ht
  go_enter Tryz.func70, Tryz.ntmps70
  go_wp2
  go_ret
  have hb : Below w.heap.size w (w.alloc (.cells #[.slice a Ts.length c] 175)) := (Below.refl _ _).alloc (Nat.le_refl _) _
  refine ⟨⟨_, rfl, 89, _, rfl, fun args w => enters_of Tryz.func89 (by kernel_rfl) rfl args w, fun W hW nv x hx => ?_⟩, hb⟩
  have hk : KeepR lo w.heap.size w W := hW.via (keep_below hb (Nat.le_refl _) (Nat.le_refl _)) (Nat.le_refl _) hb.size
  refine some1_any Ts a c _ nv x lo w.heap.size W hl (HT.out.keep hk (Nat.le_refl _) (Nat.le_refl _)) hk.1 hx ((hW.cell hlo (by simp)).trans (by go_simp))

theorem allT_of {Ts : List Tst} {x : Dg} {k : Nat} (h : k < Ts.length) (hT : Ts[k] x = false) : allT Ts x = false := by
  unfold allT
  rw [List.all_eq_false]
  exact ⟨Ts[k], List.getElem_mem h, by simp [hT]⟩
theorem allT_snoc {Ts : List Tst} {x : Dg} {k : Nat} (h : k < Ts.length) (h0 : allT (Ts.take k) x = true) (hT : Ts[k] x = true) : allT (Ts.take (k + 1)) x = true := by
  unfold allT at *
  rw [List.take_succ_eq_append_getElem h, List.all_append, h0]
  simp [hT]

set_option maxHeartbeats 1000000 in
theorem all1_any (Ts : List Tst) (a : Option Addr) (c : Nat) (pl : Nat) (nv : Value) (x : Dg) (lo hi : Nat) (w : World) (hl : Ts.length ≤ 1000000) (ht : TestsR lo hi w a Ts) (hhi : hi ≤ w.heap.size) (hn : NumV w nv x) (hc : w.cell? ⟨pl, 0, none⟩ = some (.slice a Ts.length c)) :
    Calls Tryz.prog 92 #[nv, .pointer (some ⟨pl, 0, none⟩)] w fun e w' => e = .returned (.bool (allT Ts x)) ∧ Below w.heap.size w w' := by
  have HN := Lib.hid hn
  obtain ⟨b', g, cap, n', k', rfl⟩ := hn.form
  have F : ∃ W, W = w.alloc (.cells #[.bool b', .slice (some ⟨g, 0, none⟩) n' cap, .int .i64 k'] 65) ∧ Below w.heap.size w W ∧ W.heap.size = w.heap.size + 1 ∧ BoxN W w.heap.size (.agg #[.bool b', .slice (some ⟨g, 0, none⟩) n' cap, .int .i64 k']) ∧ (w.alloc (.cells #[.bool b', .slice (some ⟨g, 0, none⟩) n' cap, .int .i64 k'] 65)).cell? ⟨pl, 0, none⟩ = some (.slice a Ts.length c) :=
    ⟨_, rfl, (Below.refl _ _).alloc (Nat.le_refl _) _, by simp, ⟨by simp, _, _, _, rfl, by go_simp, by go_simp, by go_simp⟩, by rw [World.cell?_alloc_some _ _ _ (by rw [hc]; rfl)]; exact hc⟩
  obtain ⟨W, hW, hbW, hs, hbx, dc⟩ := F
  have HT := Lib.hid (ht.keep (keep_below hbW hhi hhi) (Nat.le_refl _) (Nat.le_refl _))
  have HNW := Lib.hid (HN.out.below hbW)
  have hhiW : hi ≤ W.heap.size := by omega
  clear ht hn
  go_enter Tryz.func92, Tryz.ntmps92
  go_wp2_with fail
  rw [← hW]
  clear hW dc hc
  obtain ⟨B, hB⟩ : ∃ B, B = w.heap.size := ⟨_, rfl⟩
  rw [← hB] at hbx ⊢
  have HBE := Lib.hid hB
  clear hB
  go_loopw [8] (fun i wr => ∃ k : Nat, k ≤ Ts.length ∧ i = .int .i64 k ∧ allT (Ts.take k) x = true ∧ Below W.heap.size W wr) (fun i _ => Ts.length - (intOf i).toNat)
  case atStart => exact ⟨0, Nat.zero_le _, rfl, rfl, Below.refl _ _⟩
  case round =>
    obtain ⟨k, hk, rfl, hz, hbw⟩ := hrel
    have HZ := Lib.hid hz
    clear hz
    have hbb0 : Below w.heap.size w wr := hbW.trans (hbw.mono (by omega))
    by_cases hlt : k < Ts.length
    · obtain ⟨b, v, rfl, hc, h1, h2, hT⟩ := HT.out k hlt
      have hc' : wr.cell? (b.add k) = some v := by rw [hbw.cell (World.block_lt_of_cell? W _ hc)]; exact hc
      have hkp := keep_below (lo := lo) hbw hhiW hhiW
      obtain ⟨K, cp, rfl, hent, hcall⟩ := hT.keep hkp (Nat.le_refl _) (Nat.le_refl _)
      have hcl := hcall wr (keep_refl (Nat.le_trans hhiW hbw.size)) _ x (HNW.out.below hbw)
      have HC := Lib.hid hcl
      obtain ⟨_, bb, ss, kk, e0, c0, c1, c2⟩ := hbx.below hbw
      cases e0
      clear hc hcall hcl hT
      go_wp2_with fail
      refine HC.out.mono ?_
      rintro e w1 ⟨rfl, hb1⟩
      have hbb := hbw.trans (hb1.mono hbw.size)
      have hbb1 : Below w.heap.size w w1 := hbb0.trans (hb1.mono hbb0.size)
      cases hTx : Ts[k] x
      · have HF := Lib.hid (allT_of hlt hTx)
        clear hTx
        go_wp2
        go_ret
        exact ⟨by rw [HF.out]; rfl, hbb1⟩
      · have HF := Lib.hid (allT_snoc hlt HZ.out hTx)
        clear hTx
        go_wp2
        go_roundw
        case rel => exact ⟨k + 1, by omega, by go_num, HF.out, hbb⟩
        case measure => simp [intOf]; omega
    · obtain rfl : k = Ts.length := by omega
      have hz := HZ.out
      rw [List.take_length] at hz
      have HF := Lib.hid hz
      clear hz HZ
      go_wp2
      go_ret
      exact ⟨by rw [HF.out]; rfl, hbb0⟩

set_option maxHeartbeats 1000000 in
theorem all_any (Ts : List Tst) (a : Option Addr) (c : Nat) (lo : Nat) (w : World) (hl : Ts.length ≤ 1000000) (hlo : lo ≤ w.heap.size) (ht : TestsR lo w.heap.size w a Ts) :
    Calls Tryz.prog 72 #[.slice a Ts.length c] w fun e w' => (∃ v, e = .returned v ∧ TestR lo w'.heap.size w' v (allT Ts)) ∧ Below w.heap.size w w' := by
  have hmf : ∀ (fn : Fn) (first cap : Array Value) (w : World), (Instr.makeFunc fn first cap).run Tryz.prog w = .ok (.func fn first cap) w := fun _ _ _ _ => rfl
  have HT := Lib.hid ht
  clear ht
  go_enter Tryz.func72, Tryz.ntmps72
  go_wp2
  go_ret
  have hb : Below w.heap.size w (w.alloc (.cells #[.slice a Ts.length c] 175)) := (Below.refl _ _).alloc (Nat.le_refl _) _
  refine ⟨⟨_, rfl, 92, _, rfl, fun args w => enters_of Tryz.func92 (by kernel_rfl) rfl args w, fun W hW nv x hx => ?_⟩, hb⟩
  have hk : KeepR lo w.heap.size w W := hW.via (keep_below hb (Nat.le_refl _) (Nat.le_refl _)) (Nat.le_refl _) hb.size
  refine all1_any Ts a c _ nv x lo w.heap.size W hl (HT.out.keep hk (Nat.le_refl _) (Nat.le_refl _)) hk.1 hx ((hW.cell hlo (by simp)).trans (by go_simp))
end Go.Proofs.YtpepgmccbkkaaaaGreatDoor

/- plural's operand; the closures of a relation. -/
namespace Go.Proofs.YtpepgmccbkkaaaaGreatDoor
open Go Go.RowKit
set_option maxRecDepth 10000

/-- a function value that hangs on no memory -/
theorem opR_const {k : Nat} {F : Dg → Dg} (he : ∀ args w, (callFunc k args).run Tryz.prog w = .ok (.enter k args) w) (h : ∀ v x w, NumV w v x → Calls Tryz.prog k #[v] w (NumPost' (F x) w)) (lo hi : Nat) (w : World) : OpR lo hi w (.func (.func k) #[] #[]) F :=
  ⟨k, #[], rfl, he, fun W _ nv x hx => h nv x W hx⟩

def OperandQ (r : Option (Dg → Dg)) (w : World) (e : Ending) (w' : World) : Prop :=
  (match r with | none => e = .returned .nilFunc | some F => ∃ v, e = .returned v ∧ ∀ lo hi W, OpR lo hi W v F) ∧ w = w'

set_option maxHeartbeats 2000000 in
theorem poperand_any (c : ByteArray) (w : World) : Calls Tryz.prog 93 #[.string c] w (OperandQ (operandF c.data.toList) w) := by
  have ht := toList_at c
  by_cases h1 : c.data.toList = [110]
  · have hf : operandF c.data.toList = some (fun x => x) := by unfold operandF; rw [if_pos h1]
    rw [hf]
    have q1 : (c.toList == [110]) = true := by rw [ht, h1]; decide
    clear ht h1 hf
    go_enter Tryz.func93, Tryz.ntmps93
    go_wp2
    go_ret
    exact ⟨⟨_, rfl, opR_const (fun args w => enters_of Tryz.func106 (by kernel_rfl) rfl args w) (fun v x w h => abs_any v x w h)⟩, rfl⟩
  have q1 : (c.toList == [110]) = false := by rw [ht]; simpa using h1
  by_cases h2 : c.data.toList = [105]
  · have hf : operandF c.data.toList = some (fun x => (plainL x.1, [])) := by unfold operandF; rw [if_neg h1, if_pos h2]
    rw [hf]
    have q2 : (c.toList == [105]) = true := by rw [ht, h2]; decide
    clear ht h1 h2 hf
    go_enter Tryz.func93, Tryz.ntmps93
    go_wp2
    go_ret
    exact ⟨⟨_, rfl, opR_const (fun args w => enters_of Tryz.func107 (by kernel_rfl) rfl args w) (fun v x w h => op_i v x w h)⟩, rfl⟩
  have q2 : (c.toList == [105]) = false := by rw [ht]; simpa using h2
  by_cases h3 : c.data.toList = [118]
  · have hf : operandF c.data.toList = some (fun x => (decL x.2.length, [])) := by unfold operandF; rw [if_neg h1, if_neg h2, if_pos h3]
    rw [hf]
    have q3 : (c.toList == [118]) = true := by rw [ht, h3]; decide
    clear ht h1 h2 h3 hf
    go_enter Tryz.func93, Tryz.ntmps93
    go_wp2
    go_ret
    exact ⟨⟨_, rfl, opR_const (fun args w => enters_of Tryz.func109 (by kernel_rfl) rfl args w) (fun v x w h => op_v v x w h)⟩, rfl⟩
  have q3 : (c.toList == [118]) = false := by rw [ht]; simpa using h3
  by_cases h4 : c.data.toList = [119]
  · have hf : operandF c.data.toList = some (fun x => (decL (shortL x.2).length, [])) := by unfold operandF; rw [if_neg h1, if_neg h2, if_neg h3, if_pos h4]
    rw [hf]
    have q4 : (c.toList == [119]) = true := by rw [ht, h4]; decide
    clear ht h1 h2 h3 h4 hf
    go_enter Tryz.func93, Tryz.ntmps93
    go_wp2
    go_ret
    exact ⟨⟨_, rfl, opR_const (fun args w => enters_of Tryz.func111 (by kernel_rfl) rfl args w) (fun v x w h => op_w v x w h)⟩, rfl⟩
  have q4 : (c.toList == [119]) = false := by rw [ht]; simpa using h4
  by_cases h5 : c.data.toList = [102]
  · have hf : operandF c.data.toList = some (fun x => (plainL x.2, [])) := by unfold operandF; rw [if_neg h1, if_neg h2, if_neg h3, if_neg h4, if_pos h5]
    rw [hf]
    have q5 : (c.toList == [102]) = true := by rw [ht, h5]; decide
    clear ht h1 h2 h3 h4 h5 hf
    go_enter Tryz.func93, Tryz.ntmps93
    go_wp2
    go_ret
    exact ⟨⟨_, rfl, opR_const (fun args w => enters_of Tryz.func113 (by kernel_rfl) rfl args w) (fun v x w h => op_f v x w h)⟩, rfl⟩
  have q5 : (c.toList == [102]) = false := by rw [ht]; simpa using h5
  by_cases h6 : c.data.toList = [116]
  · have hf : operandF c.data.toList = some (fun x => (plainL (shortL x.2), [])) := by unfold operandF; rw [if_neg h1, if_neg h2, if_neg h3, if_neg h4, if_neg h5, if_pos h6]
    rw [hf]
    have q6 : (c.toList == [116]) = true := by rw [ht, h6]; decide
    clear ht h1 h2 h3 h4 h5 h6 hf
    go_enter Tryz.func93, Tryz.ntmps93
    go_wp2
    go_ret
    exact ⟨⟨_, rfl, opR_const (fun args w => enters_of Tryz.func114 (by kernel_rfl) rfl args w) (fun v x w h => op_t v x w h)⟩, rfl⟩
  have q6 : (c.toList == [116]) = false := by rw [ht]; simpa using h6
  have hf : operandF c.data.toList = none := by unfold operandF; rw [if_neg h1, if_neg h2, if_neg h3, if_neg h4, if_neg h5, if_neg h6]
  rw [hf]
  clear ht h1 h2 h3 h4 h5 h6 hf
  go_enter Tryz.func93, Tryz.ntmps93
  go_wp2
  go_ret
  exact ⟨rfl, rfl⟩

theorem cell3 {W : World} {q : Nat} {p : Addr} {v u0 u1 u2 : Value} (h : W.cell? p = some v) (hp : p.block ≠ q) : (((W.setCell ⟨q, 0, none⟩ u0).setCell ⟨q, 1, none⟩ u1).setCell ⟨q, 2, none⟩ u2).cell? p = some v := by
  refine (World.cell?_of_block ?_).trans h
  rw [Below.heap_setCell _ _ _ _ hp, Below.heap_setCell _ _ _ _ hp, Below.heap_setCell _ _ _ _ hp]

set_option maxHeartbeats 1000000 in
/-- a remainder of what an operand takes -/
theorem rel1_any (nv : Value) (x : Dg) (pw pm : Nat) (wv : Value) (m : Nat) (F : Dg → Dg) (lo hi : Nat) (w : World) (hn : NumV w nv x) (hm : m ≤ 1000000000) (hm0 : 0 < m) (cw : w.cell? ⟨pw, 0, none⟩ = some wv) (cm : w.cell? ⟨pm, 0, none⟩ = some (.int .i64 m)) (hw : OpR lo hi w wv F) (hhi : hi ≤ w.heap.size) :
    Calls Tryz.prog 95 #[nv, .pointer (some ⟨pw, 0, none⟩), .pointer (some ⟨pm, 0, none⟩)] w (NumPost' (modF F m x) w) := by
  have HN := Lib.hid hn
  obtain ⟨b, g, cap, n', k', rfl⟩ := hn.form
  obtain ⟨hb0, hr0⟩ := res_world w (.cells #[.bool b, .slice (some ⟨g, 0, none⟩) n' cap, .int .i64 k'] 65)
  have F0 : ∃ W, W = (w.alloc (.cells #[.bool b, .slice (some ⟨g, 0, none⟩) n' cap, .int .i64 k'] 65)).alloc (.cells #[.bool false, .slice none 0 0, .int .i64 0] 65) ∧ W.cell? ⟨w.heap.size, 0, none⟩ = some (.bool b) ∧ W.cell? ⟨w.heap.size, 1, none⟩ = some (.slice (some ⟨g, 0, none⟩) n' cap) ∧ W.cell? ⟨w.heap.size, 2, none⟩ = some (.int .i64 k') :=
    ⟨_, rfl, by go_simp, by go_simp, by go_simp⟩
  obtain ⟨W, hW, d0, d1, d2⟩ := F0
  rw [← hW] at hb0 hr0
  have ew := (hb0.cell (p := ⟨pw, 0, none⟩) (World.block_lt_of_cell? w _ cw)).trans cw
  have em := (hb0.cell (p := ⟨pm, 0, none⟩) (World.block_lt_of_cell? w _ cm)).trans cm
  obtain ⟨K0, cp, rfl, hent, hcall⟩ := hw.keep (keep_below hb0 hhi hhi) (Nat.le_refl _) (Nat.le_refl _)
  have HC := Lib.hid (hcall W.drew (show KeepR lo hi W W.drew from keep_refl (Nat.le_trans hhi hb0.size)) _ x (HN.out.below hb0.drew))
  have hpw := World.block_lt_of_cell? w _ cw
  have hpm := World.block_lt_of_cell? w _ cm
  dsimp only at hpw hpm
  clear hcall hn cw cm
  go_enter Tryz.func95, Tryz.ntmps95
  go_wp2_with fail
  rw [← hW]
  clear hW
  obtain ⟨B, hB⟩ : ∃ B, B = w.heap.size := ⟨_, rfl⟩
  rw [← hB] at d0 d1 d2 hr0 ⊢
  have HB := Lib.hid hB
  clear hB
  have hS0 : W.drew.cell? ⟨B, 0, none⟩ = some (.bool b) ∧ W.drew.cell? ⟨B, 1, none⟩ = some (.slice (some ⟨g, 0, none⟩) n' cap) ∧ W.drew.cell? ⟨B, 2, none⟩ = some (.int .i64 k') ∧ W.drew.cell? ⟨pw, 0, none⟩ = some (.func (.func K0) #[] cp) ∧ W.drew.cell? ⟨pm, 0, none⟩ = some (.int .i64 m) := ⟨d0, d1, d2, ew, em⟩
  refine wp_region_takes (fun W' : World => W'.cell? ⟨B, 0, none⟩ = some (.bool b) ∧ W'.cell? ⟨B, 1, none⟩ = some (.slice (some ⟨g, 0, none⟩) n' cap) ∧ W'.cell? ⟨B, 2, none⟩ = some (.int .i64 k') ∧ W'.cell? ⟨pw, 0, none⟩ = some (.func (.func K0) #[] cp) ∧ W'.cell? ⟨pm, 0, none⟩ = some (.int .i64 m))
    [0, 1, 3] 3 (by intro _ _ d _ _ h; cases d <;> exact h) (by kernel_rfl) (by kernel_rfl) hS0 ?_
  (iterate 3 (first | (refine takes_yes (v := ?_) rfl (by rfl) ?_ ?_; rotate_left; (focus ((intro w' hS'; (try dsimp only at hS'); go_simp; try (with_reducible rfl)); done)); (try simp only [Act.put, List.setIfInBounds_toArray, List.set_cons_zero, List.set_cons_succ])) | (refine takes_no rfl (by rfl) ?_; (try simp only [Act.put, List.setIfInBounds_toArray, List.set_cons_zero, List.set_cons_succ]))))
  refine takes_nil ?_
  refine wpAnyH_only 2 (by kernel_rfl) rfl (fun K hK => ?_)
  go_simp
  refine HC.out.mono ?_
  rintro e w1 ⟨⟨v1, rfl, hn1⟩, hb1⟩
  have hlt : ∀ {p : Addr} {u : Value}, W.cell? p = some u → w1.cell? p = some u := fun {p u} h => (hb1.cell (World.block_lt_of_cell? W p h)).trans h
  have hS1 : w1.cell? ⟨B, 0, none⟩ = some (.bool b) ∧ w1.cell? ⟨B, 1, none⟩ = some (.slice (some ⟨g, 0, none⟩) n' cap) ∧ w1.cell? ⟨B, 2, none⟩ = some (.int .i64 k') ∧ w1.cell? ⟨pw, 0, none⟩ = some (.func (.func K0) #[] cp) ∧ w1.cell? ⟨pm, 0, none⟩ = some (.int .i64 m) := ⟨hlt d0, hlt d1, hlt d2, hlt ew, hlt em⟩
  have hr1 := (show ResC W.drew (B + 1) from ⟨hr0.c0, hr0.c1, hr0.c2, hr0.z0, hr0.z1, hr0.z2, hr0.lt⟩).below hb1
  have hbb1 : Below w.heap.size w w1 := hb0.drew.trans (hb1.mono hb0.size)
  refine hK.out _ _ hS1 (fun _ => ?_)
  clear hK K hS0 hlt d0 d1 d2 ew em
  have HM := Lib.hid (mod_any v1 (F x) m w1 hn1 hm hm0)
  obtain ⟨b1, g1, cap1, n1, k1, rfl⟩ := hn1.form
  clear hn1
  refine wpAnyH_only 4 (by kernel_rfl) rfl (fun K hK => ?_)
  go_simp
  refine HM.out.mono ?_
  rintro e w2 ⟨⟨v2, rfl, hn2⟩, hb2⟩
  have hlt : ∀ {p : Addr} {u : Value}, w1.cell? p = some u → w2.cell? p = some u := fun {p u} h => (hb2.cell (World.block_lt_of_cell? w1 p h)).trans h
  have hS2 : w2.cell? ⟨B, 0, none⟩ = some (.bool b) ∧ w2.cell? ⟨B, 1, none⟩ = some (.slice (some ⟨g, 0, none⟩) n' cap) ∧ w2.cell? ⟨B, 2, none⟩ = some (.int .i64 k') ∧ w2.cell? ⟨pw, 0, none⟩ = some (.func (.func K0) #[] cp) ∧ w2.cell? ⟨pm, 0, none⟩ = some (.int .i64 m) := ⟨hlt hS1.1, hlt hS1.2.1, hlt hS1.2.2.1, hlt hS1.2.2.2.1, hlt hS1.2.2.2.2⟩
  have hr2 := hr1.below hb2
  have hbb2 : Below w.heap.size w w2 := hbb1.trans (hb2.mono hbb1.size)
  refine hK.out _ _ hS2 (fun _ => ?_)
  clear hK K hlt hS1 hr1
  have HN2 := Lib.hid hn2
  obtain ⟨b2, g2, cap2, n2, k2, rfl⟩ := hn2.form
  clear hn2
  have c0 := hr2.c0
  have c1 := hr2.c1
  have c2 := hr2.c2
  have z0 := hr2.z0
  have z1 := hr2.z1
  have z2 := hr2.z2
  refine wpAnyH_only 5 (by kernel_rfl) rfl (fun K hK => ?_)
  go_simp
  have hB1 := HB.out
  have e0 := cell3 (u0 := .bool b2) (u1 := .slice (some ⟨g2, 0, none⟩) n2 cap2) (u2 := .int .i64 k2) hS2.1 (show B ≠ B + 1 by omega)
  have e1 := cell3 (u0 := .bool b2) (u1 := .slice (some ⟨g2, 0, none⟩) n2 cap2) (u2 := .int .i64 k2) hS2.2.1 (show B ≠ B + 1 by omega)
  have e2 := cell3 (u0 := .bool b2) (u1 := .slice (some ⟨g2, 0, none⟩) n2 cap2) (u2 := .int .i64 k2) hS2.2.2.1 (show B ≠ B + 1 by omega)
  have e3 := cell3 (u0 := .bool b2) (u1 := .slice (some ⟨g2, 0, none⟩) n2 cap2) (u2 := .int .i64 k2) hS2.2.2.2.1 (show pw ≠ B + 1 by omega)
  have e4 := cell3 (u0 := .bool b2) (u1 := .slice (some ⟨g2, 0, none⟩) n2 cap2) (u2 := .int .i64 k2) hS2.2.2.2.2 (show pm ≠ B + 1 by omega)
  refine hK.out _ _ ⟨e0, e1, e2, e3, e4⟩ (fun _ => ?_)
  clear hK K e0 e1 e2 e3 e4
  refine wpAnyH_done (by kernel_rfl) ?_ _
  go_wp2
  refine bodyPost_ret (v := .agg #[.bool b2, .slice (some ⟨g2, 0, none⟩) n2 cap2, .int .i64 k2]) ?_ rfl ?_
  · simp [results, Tryz.results95, go_sem, c0, c1, c2]
  exact num_store (w := w) HN2.out hr2 (by omega) hbb2

set_option maxHeartbeats 1000000 in
/-- the test of a relation -/
theorem rel2_any (nv : Value) (x : Dg) (pi po pn : Nat) (iv ov : Value) (nt : Bool) (T : Tst) (F : Dg → Dg) (lo hi : Nat) (w : World) (hn : NumV w nv x) (ci : w.cell? ⟨pi, 0, none⟩ = some iv) (co : w.cell? ⟨po, 0, none⟩ = some ov) (cn : w.cell? ⟨pn, 0, none⟩ = some (.bool nt)) (hI : TestR lo hi w iv T) (hO : OpR lo hi w ov F) (hhi : hi ≤ w.heap.size) :
    Calls Tryz.prog 98 #[nv, .pointer (some ⟨pi, 0, none⟩), .pointer (some ⟨po, 0, none⟩), .pointer (some ⟨pn, 0, none⟩)] w fun e w' => e = .returned (.bool (T (F x) != nt)) ∧ Below w.heap.size w w' := by
  have HN := Lib.hid hn
  obtain ⟨b, g, cap, n', k', rfl⟩ := hn.form
  have F0 : ∃ W, W = w.alloc (.cells #[.bool b, .slice (some ⟨g, 0, none⟩) n' cap, .int .i64 k'] 65) ∧ Below w.heap.size w W ∧ W.cell? ⟨w.heap.size, 0, none⟩ = some (.bool b) ∧ W.cell? ⟨w.heap.size, 1, none⟩ = some (.slice (some ⟨g, 0, none⟩) n' cap) ∧ W.cell? ⟨w.heap.size, 2, none⟩ = some (.int .i64 k') :=
    ⟨_, rfl, (Below.refl _ _).alloc (Nat.le_refl _) _, by go_simp, by go_simp, by go_simp⟩
  obtain ⟨W, hW, hb0, d0, d1, d2⟩ := F0
  have ei := (hb0.cell (p := ⟨pi, 0, none⟩) (World.block_lt_of_cell? w _ ci)).trans ci
  have eo := (hb0.cell (p := ⟨po, 0, none⟩) (World.block_lt_of_cell? w _ co)).trans co
  have en := (hb0.cell (p := ⟨pn, 0, none⟩) (World.block_lt_of_cell? w _ cn)).trans cn
  obtain ⟨K0, cp, rfl, hent, hcall⟩ := hO.keep (keep_below hb0 hhi hhi) (Nat.le_refl _) (Nat.le_refl _)
  have HC := Lib.hid (hcall W.drew (show KeepR lo hi W W.drew from keep_refl (Nat.le_trans hhi hb0.size)) _ x (HN.out.below hb0.drew))
  obtain ⟨K1, cp1, rfl, hent1, hcall1⟩ := hI.keep (keep_below hb0 hhi hhi) (Nat.le_refl _) (Nat.le_refl _)
  have HC1 := Lib.hid hcall1
  clear hcall hcall1 hn ci co cn
  go_enter Tryz.func98, Tryz.ntmps98
  go_wp2_with fail
  rw [← hW]
  clear hW
  obtain ⟨B, hB⟩ : ∃ B, B = w.heap.size := ⟨_, rfl⟩
  rw [← hB] at d0 d1 d2 ⊢
  have HB := Lib.hid hB
  clear hB
  have hS0 : W.drew.cell? ⟨B, 0, none⟩ = some (.bool b) ∧ W.drew.cell? ⟨B, 1, none⟩ = some (.slice (some ⟨g, 0, none⟩) n' cap) ∧ W.drew.cell? ⟨B, 2, none⟩ = some (.int .i64 k') ∧ W.drew.cell? ⟨pi, 0, none⟩ = some (.func (.func K1) #[] cp1) ∧ W.drew.cell? ⟨po, 0, none⟩ = some (.func (.func K0) #[] cp) ∧ W.drew.cell? ⟨pn, 0, none⟩ = some (.bool nt) := ⟨d0, d1, d2, ei, eo, en⟩
  refine wp_region_takes (fun W' : World => W'.cell? ⟨B, 0, none⟩ = some (.bool b) ∧ W'.cell? ⟨B, 1, none⟩ = some (.slice (some ⟨g, 0, none⟩) n' cap) ∧ W'.cell? ⟨B, 2, none⟩ = some (.int .i64 k') ∧ W'.cell? ⟨pi, 0, none⟩ = some (.func (.func K1) #[] cp1) ∧ W'.cell? ⟨po, 0, none⟩ = some (.func (.func K0) #[] cp) ∧ W'.cell? ⟨pn, 0, none⟩ = some (.bool nt))
    [0, 1, 2, 5] 4 (by intro _ _ d _ _ h; cases d <;> exact h) (by kernel_rfl) (by kernel_rfl) hS0 ?_
  (iterate 4 (first | (refine takes_yes (v := ?_) rfl (by rfl) ?_ ?_; rotate_left; (focus ((intro w' hS'; (try dsimp only at hS'); go_simp; try (with_reducible rfl)); done)); (try simp only [Act.put, List.setIfInBounds_toArray, List.set_cons_zero, List.set_cons_succ])) | (refine takes_no rfl (by rfl) ?_; (try simp only [Act.put, List.setIfInBounds_toArray, List.set_cons_zero, List.set_cons_succ]))))
  refine takes_nil ?_
  refine wpAnyH_only 3 (by kernel_rfl) rfl (fun K hK => ?_)
  go_simp
  refine HC.out.mono ?_
  rintro e w1 ⟨⟨v1, rfl, hn1⟩, hb1⟩
  have hlt : ∀ {p : Addr} {u : Value}, W.cell? p = some u → w1.cell? p = some u := fun {p u} h => (hb1.cell (World.block_lt_of_cell? W p h)).trans h
  have hS1 : w1.cell? ⟨B, 0, none⟩ = some (.bool b) ∧ w1.cell? ⟨B, 1, none⟩ = some (.slice (some ⟨g, 0, none⟩) n' cap) ∧ w1.cell? ⟨B, 2, none⟩ = some (.int .i64 k') ∧ w1.cell? ⟨pi, 0, none⟩ = some (.func (.func K1) #[] cp1) ∧ w1.cell? ⟨po, 0, none⟩ = some (.func (.func K0) #[] cp) ∧ w1.cell? ⟨pn, 0, none⟩ = some (.bool nt) := ⟨hlt d0, hlt d1, hlt d2, hlt ei, hlt eo, hlt en⟩
  have hbb1 : Below w.heap.size w w1 := hb0.drew.trans (hb1.mono hb0.size)
  have hhW : hi ≤ W.heap.size := Nat.le_trans hhi hb0.size
  have hk1 : KeepR lo hi W w1 := keep_below (w := W.drew) hb1 hhW hhW
  refine hK.out _ _ hS1 (fun _ => ?_)
  clear hK K hS0 hlt d0 d1 d2 ei eo en
  have HI := Lib.hid (HC1.out w1 hk1 v1 (F x) hn1)
  obtain ⟨b1, g1, cap1, n1, k1, rfl⟩ := hn1.form
  clear hn1
  refine wpAnyH_only 4 (by kernel_rfl) rfl (fun K hK => ?_)
  go_simp
  refine HI.out.mono ?_
  rintro e w2 ⟨rfl, hb2⟩
  have hlt : ∀ {p : Addr} {u : Value}, w1.cell? p = some u → w2.cell? p = some u := fun {p u} h => (hb2.cell (World.block_lt_of_cell? w1 p h)).trans h
  have hS2 : w2.cell? ⟨B, 0, none⟩ = some (.bool b) ∧ w2.cell? ⟨B, 1, none⟩ = some (.slice (some ⟨g, 0, none⟩) n' cap) ∧ w2.cell? ⟨B, 2, none⟩ = some (.int .i64 k') ∧ w2.cell? ⟨pi, 0, none⟩ = some (.func (.func K1) #[] cp1) ∧ w2.cell? ⟨po, 0, none⟩ = some (.func (.func K0) #[] cp) ∧ w2.cell? ⟨pn, 0, none⟩ = some (.bool nt) := ⟨hlt hS1.1, hlt hS1.2.1, hlt hS1.2.2.1, hlt hS1.2.2.2.1, hlt hS1.2.2.2.2.1, hlt hS1.2.2.2.2.2⟩
  have hbb2 : Below w.heap.size w w2 := hbb1.trans (hb2.mono hbb1.size)
  refine hK.out _ _ hS2 (fun _ => ?_)
  clear hK K hlt hS1
  obtain ⟨r, hr⟩ : ∃ r, T (F x) = r := ⟨_, rfl⟩
  rw [hr]
  have HR := Lib.hid hr
  clear HI hr
  refine wpAnyH_more [6, 7] 0 rfl (by intro _ _ d _ _ h; cases d <;> exact h) (by kernel_rfl) (by kernel_rfl) hS2 ?_
  (iterate 2 (first | (refine takes_yes (v := ?_) rfl (by rfl) ?_ ?_; rotate_left; (focus ((intro w' hS'; (try dsimp only at hS'); go_simp; try (with_reducible rfl)); done)); (try simp only [Act.put, List.setIfInBounds_toArray, List.set_cons_zero, List.set_cons_succ])) | (refine takes_no rfl (by rfl) ?_; (try simp only [Act.put, List.setIfInBounds_toArray, List.set_cons_zero, List.set_cons_succ]))))
  refine takes_nil ?_
  refine wpAnyH_done (by kernel_rfl) ?_ _
  go_wp2
  go_ret
  exact ⟨by rw [HR.out]; rfl, hbb2⟩
end Go.Proofs.YtpepgmccbkkaaaaGreatDoor
