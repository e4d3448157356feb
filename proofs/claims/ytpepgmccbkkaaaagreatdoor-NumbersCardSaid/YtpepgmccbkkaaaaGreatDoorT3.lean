/- phrases.Number and plain.Number: a number as a locale writes it. -/
import Derived.Test.YtpepgmccbkkaaaaGreatDoorT2
import Derived.Test.YtpepgmccbkkaaaaGreatDoorL1
namespace Go.Proofs.YtpepgmccbkkaaaaGreatDoor
open Go Go.RowKit
set_option maxRecDepth 10000

theorem PReadAt.later {w w1 : World} {c : Value} {r : Bool} {Q : World → Value → Prop} (h : PReadAt w c r Q) (hb : Below w.heap.size w w1) : PReadAt w1 c r Q := by
  intro W hW
  refine (h W (hb.trans (hW.mono hb.size))).mono ?_
  rintro e W2 ⟨⟨a, n, k, he, hQ⟩, hb2⟩
  exact ⟨⟨a, n, k, he, fun W3 h3 => hQ W3 ⟨h3.1, fun j hj => h3.2 j (hj.imp (fun q => Nat.lt_of_lt_of_le q hb.size) id)⟩⟩, hb2⟩

/-- what a number's text is in a locale; its error -/
def textL (kn : Bool) (l : List UInt8) (mi po gr : Int) (fi ne : Nat) (dg : List UInt8) : List UInt8 :=
  if kn && isNumL l then writtenL (negL l) (wholeL l) (fracL l) (ptsL dg).1 mi po gr fi ne else []
def codeL (kn : Bool) (l : List UInt8) : Int := if kn then if isNumL l then 0 else 10 else 8

theorem own_row {w : World} {base size n : Nat} {e : TypeId} {v : Value} {xs : List Value} (h : w.ownsRow base e size v n xs) (hn : 0 < n) :
    ∃ g cap, v = .slice (some ⟨g, 0, none⟩) n cap ∧ base ≤ g ∧ g < w.heap.size ∧ n ≤ cap ∧ ∀ j, j < n * size → w.cell? ⟨g, j, none⟩ = xs[j]? := by
  have hlt := h.lt
  rcases h.2 with ⟨_, h0⟩ | ⟨g, cap, cur, hv, hg, hh, h1, _, _, ht⟩
  · omega
  · subst hv
    exact ⟨g, cap, rfl, hg, (hlt g rfl).2, h1, fun j hj => h.cellAt j hj⟩

theorem vals_dig (l : List UInt8) (h : l.all isDig = true) : ∀ x ∈ vals l, 0 ≤ x ∧ x ≤ 9 := by
  intro x hx
  obtain ⟨c, hc, rfl⟩ := List.mem_map.1 hx
  have := dig_range c (List.all_eq_true.1 h c hc)
  omega

theorem num_parts {l : List UInt8} (h : isNumL l = true) : (wholeL l).all isDig = true ∧ (fracL l).all isDig = true ∧ 0 < (wholeL l).length ∧ (wholeL l).length + (fracL l).length ≤ 30 := by
  simp only [isNumL, formL, Bool.and_eq_true, Bool.or_eq_true, decide_eq_true_eq] at h
  have hw := h.1.1.1.1
  have hf := h.1.1.1.2
  simp only [numeralsL, Bool.and_eq_true] at hw
  refine ⟨hw.1, ?_, ?_, h.1.1.2⟩
  · rcases hf with hf | hf
    · have hp : ¬ (absL l).idxOf 46 < (absL l).length := by simpa [pointL] using hf
      have : fracL l = [] := by unfold fracL; exact List.drop_of_length_le (by omega)
      rw [this]; rfl
    · simp only [numeralsL, Bool.and_eq_true] at hf
      exact hf.1
  · have := hw.2
    cases hl : wholeL l with
    | nil => rw [hl] at this; cases this
    | cons a b => simp

theorem known_parts {ra rb : Bool} {mi po gr : Int} {fi ne : Nat} {dg : List UInt8} (h : knownL ra rb mi po gr fi ne dg = true) :
    isPt mi = true ∧ isPt po = true ∧ isPt gr = true ∧ (dg = [] ∨ (ptsL dg).1.length = 10) ∧ fi ≤ 9 ∧ ne ≤ 9 := by
  simp only [knownL, Bool.and_eq_true, Bool.or_eq_true, decide_eq_true_eq] at h
  refine ⟨h.2.2.1, h.2.2.2.1, h.2.2.2.2.1, ?_, by omega, by omega⟩
  rcases h.2.2.2.2.2.2.2.2.1 with h1 | h1
  · exact .inl (List.eq_nil_of_length_eq_zero (by omega))
  · refine .inr ?_
    simp at h1
    omega

theorem pt_i32 {r : Int} (h : isPt r = true) : I32 r := by
  have h1 : (0 ≤ r ∧ r ≤ 1114111) ∧ (r < 55296 ∨ 57343 < r) := by unfold isPt at h; simp at h; omega
  exact ⟨by omega, by omega⟩

/-- Write, of a number that was read, in a locale that was read -/
theorem write_read (g : Nat) (v : Value) (l : List UInt8) (mi po gr : Int) (fi ne : Nat) (dg : List UInt8) (w : World) (B : Nat) (ra rb : Bool)
    (hk : knownL ra rb mi po gr fi ne dg = true) (hn : isNumL l = true) (hX : LocX w g mi po gr fi ((if ne = 0 then fi else ne : Nat) : Int) (runesL (digL dg))) (hg : g < w.heap.size)
    (ho : w.ownsRow B 5 1 v ((wholeL l).length + (fracL l).length) (digs (wholeL l ++ fracL l))) :
    Calls Tryz.prog 28 #[.pointer (some ⟨g, 0, none⟩), .agg #[.bool (negL l), v, .int .i64 ((fracL l).length : Int)]] w fun e w' =>
      e = .returned (strv (writtenL (negL l) (wholeL l) (fracL l) (ptsL dg).1 mi po gr fi ne)) ∧ Below w.heap.size w w' := by
  obtain ⟨p1, p2, p3, hd, f1, f2⟩ := known_parts hk
  obtain ⟨d1, d2, hw, h30⟩ := num_parts hn
  obtain ⟨gd, cap, rfl, _, hgd, hcap, hc⟩ := own_row ho (by omega)
  rw [← write_law (negL l) (wholeL l) (fracL l) mi po gr fi ne dg hd p1 p2 p3 d1 d2]
  have hall : (wholeL l ++ fracL l).all isDig = true := by rw [List.all_append, d1, d2]; rfl
  refine write_any g gd cap (fracL l).length _ (negL l) (vals (wholeL l ++ fracL l)) mi po gr fi (if ne = 0 then fi else ne) (runesL (digL dg)) w hX hg ?_ hgd (by simp [vals]) (by omega) hcap (by omega)
    (vals_dig _ hall) ⟨pt_i32 p1, pt_i32 p2, pt_i32 p3, fun x hx => runesL_i32 _ _ (Nat.le_refl _) x hx⟩ (by omega) (by intro h; split <;> omega) (by split <;> omega)
  intro j hj
  refine ⟨_, rfl, ?_⟩
  have hj2 : j < (wholeL l ++ fracL l).length := by simpa [vals] using hj
  rw [addr_add0, hc j (by simp at hj2; omega)]
  have hj3 : j < (vals (wholeL l ++ fracL l)).length := hj
  simp only [digs, vals, List.getElem?_map, List.getElem_map]
  rw [List.getElem?_eq_getElem hj2]
  rfl

def NumberPost (t : List UInt8) (v : Value) (w : World) (e : Ending) (w' : World) : Prop := e = .returned (.tuple #[strv t, v]) ∧ Below w.heap.size w w'

/-- the heads of Go's tables that lie in the heap -/
structure Tabs (w : World) : Prop where
  utf8 : Lib.Utf8Tabs 2 3 w
  err : ErrT w

theorem Tabs.below {w w' : World} (h : Tabs w) (hb : Below w.heap.size w w') : Tabs w' := ⟨tabs_later h.utf8 hb, h.err.below hb⟩

set_option maxHeartbeats 2000000 in
theorem number_any (s : ByteArray) (c o : Value) (ra rb : Bool) (mi po gr : Int) (fi ne : Nat) (dg : ByteArray) (Qc Qo : World → Value → Prop) (w : World) (hs : s.size ≤ 1000000) (hd : dg.size ≤ 1000000) (hfi : fi ≤ 255) (hne : ne ≤ 255)
    (hc : PReadAt w c ra Qc) (ho : PReadAt w o rb Qo) (hco : (∃ a n k, c = .slice a n k) ∧ ∃ a n k, o = .slice a n k) (hT : Tabs w) :
    Calls Tryz.prog 17 #[.string s, locv c o mi po gr fi ne dg] w
      (NumberPost (textL (knownL ra rb mi po gr fi ne dg.data.toList) s.data.toList mi po gr fi ne dg.data.toList) (errV (codeL (knownL ra rb mi po gr fi ne dg.data.toList) s.data.toList)) w) := by
  have HC := Lib.hid hc
  have HO := Lib.hid ho
  have HCO := Lib.hid hco
  have HT := Lib.hid hT
  clear hc ho hco hT
  go_enter Tryz.func17, Tryz.ntmps17
  go_wp2_with fail
  refine calls_gen ?_
  intro W hW
  have hb : Below w.heap.size w W := by rw [hW]; exact (Below.refl _ _).alloc (Nat.le_refl _) _
  clear hW
  refine (read_any c o ra rb mi po gr fi ne dg Qc Qo W hd hfi hne (HC.out.later hb) (HO.out.later hb) HCO.out (HT.out.below hb).utf8).mono ?_
  rintro e w1 ⟨hb1, hres⟩
  have hb01 : Below w.heap.size w w1 := hb.trans (hb1.mono hb.size)
  cases hk : knownL ra rb mi po gr fi ne dg.data.toList
  · rw [hk, if_neg (by simp)] at hres
    subst hres
    have ht : textL (knownL ra rb mi po gr fi ne dg.data.toList) s.data.toList mi po gr fi ne dg.data.toList = [] := by rw [hk]; rfl
    have hcd : codeL (knownL ra rb mi po gr fi ne dg.data.toList) s.data.toList = 8 := by rw [hk]; rfl
    have HTX := Lib.hid ht
    have HCD := Lib.hid hcd
    clear ht hcd hk hb hb1
    go_wp2
    go_ret2
    refine ⟨?_, hb01⟩
    rw [HTX.out, HCD.out]
    rfl
  · rw [hk, if_pos rfl] at hres
    obtain ⟨g, cv, ov, rfl, hg0, hg1, hX, -⟩ := hres
    have HX := Lib.hid hX
    have HK := Lib.hid hk
    clear hX hk
    go_wp2_with fail
    refine (parse_any s _ hs).mono ?_
    rintro e w2 ⟨b, v, k, rfl, ⟨va, vn, vk, rfl⟩, hb2, hres⟩
    have hb02 := hb01.trans (hb2.mono hb01.size)
    have hX2 := HX.out.below hb2 hg1
    have hg2 : g < w2.heap.size := Nat.lt_of_lt_of_le hg1 hb2.size
    cases hn : isNumL s.data.toList
    · have ht : textL (knownL ra rb mi po gr fi ne dg.data.toList) s.data.toList mi po gr fi ne dg.data.toList = [] := by unfold textL; rw [HK.out, hn]; rfl
      have hcd : codeL (knownL ra rb mi po gr fi ne dg.data.toList) s.data.toList = 10 := by unfold codeL; rw [HK.out, hn]; rfl
      have HTX := Lib.hid ht
      have HCD := Lib.hid hcd
      clear ht hcd hn hres hb2 hb hb1 hX2
      go_wp2
      go_ret2
      refine ⟨?_, hb02.alloc (hb02.size) _⟩
      rw [HTX.out, HCD.out]
      rfl
    · have ht : textL (knownL ra rb mi po gr fi ne dg.data.toList) s.data.toList mi po gr fi ne dg.data.toList = writtenL (negL s.data.toList) (wholeL s.data.toList) (fracL s.data.toList) (ptsL dg.data.toList).1 mi po gr fi ne := by unfold textL; rw [HK.out, hn]; rfl
      have hcd : codeL (knownL ra rb mi po gr fi ne dg.data.toList) s.data.toList = 0 := by unfold codeL; rw [HK.out, hn]; rfl
      have HTX := Lib.hid ht
      have HCD := Lib.hid hcd
      obtain ⟨rfl, rfl, hown⟩ := hres hn
      have HN := Lib.hid hn
      have HO2 := Lib.hid hown
      have HX2 := Lib.hid hX2
      clear ht hcd hn hres hb hb1 hX2 hown
      go_wp2_with fail
      refine calls_gen ?_
      intro W3 hW3
      have hb23 : Below w2.heap.size w2 W3 := by rw [hW3]; exact (Below.refl _ _).alloc (Nat.le_refl _) _
      clear hW3
      refine (write_read g (.slice va vn vk) s.data.toList mi po gr fi ne dg.data.toList W3 _ ra rb HK.out HN.out (HX2.out.below hb23 hg2) (Nat.lt_of_lt_of_le hg2 hb23.size) (own_below HO2.out hb23)).mono ?_
      rintro e w4 ⟨rfl, hb34⟩
      have hb04 := (hb02.trans (hb23.mono hb02.size)).trans (hb34.mono (Nat.le_trans hb02.size hb23.size))
      clear hb23 hb34 hb02 hb2
      go_wp2
      go_ret2
      refine ⟨?_, hb04⟩
      rw [HTX.out, HCD.out]
      rfl

set_option maxHeartbeats 2000000 in
theorem pnumber_any (s : ByteArray) (c o : Value) (ra rb : Bool) (mi po gr : Int) (fi ne : Nat) (dg : ByteArray) (Qc Qo : World → Value → Prop) (w : World) (hs : s.size ≤ 1000000) (hd : dg.size ≤ 1000000) (hfi : fi ≤ 255) (hne : ne ≤ 255)
    (hc : PReadAt w c ra Qc) (ho : PReadAt w o rb Qo) (hco : (∃ a n k, c = .slice a n k) ∧ ∃ a n k, o = .slice a n k) (hT : Tabs w) :
    Calls Tryz.prog 8 #[.string s, locv c o mi po gr fi ne dg] w
      (NumberPost (textL (knownL ra rb mi po gr fi ne dg.data.toList) s.data.toList mi po gr fi ne dg.data.toList) (.int .i64 (codeL (knownL ra rb mi po gr fi ne dg.data.toList) s.data.toList)) w) := by
  have hcall := fun W h1 h2 h3 => number_any s c o ra rb mi po gr fi ne dg Qc Qo W hs hd hfi hne h1 h2 hco h3
  generalize textL (knownL ra rb mi po gr fi ne dg.data.toList) s.data.toList mi po gr fi ne dg.data.toList = tx at *
  generalize codeL (knownL ra rb mi po gr fi ne dg.data.toList) s.data.toList = cd at *
  have HCALL := Lib.hid hcall
  clear hcall
  have HC := Lib.hid hc
  have HO := Lib.hid ho
  have HCO := Lib.hid hco
  have HT := Lib.hid hT
  clear hc ho hco hT
  go_enter Tryz.func8, Tryz.ntmps8
  go_wp2_with fail
  refine calls_gen ?_
  intro W hW
  have hb : Below w.heap.size w W := by rw [hW]; exact (Below.refl _ _).alloc (Nat.le_refl _) _
  clear hW
  refine (HCALL.out W (HC.out.later hb) (HO.out.later hb) (HT.out.below hb)).mono ?_
  rintro e w1 ⟨rfl, hb1⟩
  have hb01 : Below w.heap.size w w1 := hb.trans (hb1.mono hb.size)
  clear hb hb1
  go_wp2_with fail
  refine (tell_e cd _ (HT.out.below hb01).err).mono ?_
  rintro e w2 ⟨rfl, hb2⟩
  have hb02 := hb01.trans (hb2.mono hb01.size)
  clear hb2 hb01
  go_wp2
  go_ret2
  exact ⟨rfl, hb02⟩
end Go.Proofs.YtpepgmccbkkaaaaGreatDoor
