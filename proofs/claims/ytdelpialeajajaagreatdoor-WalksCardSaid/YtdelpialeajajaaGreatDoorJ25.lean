import Derived.Test.YtdelpialeajajaaGreatDoorJ24
import Derived.Deep.DeepCutAuto
import Derived.Deep.CutBlock

/- A text's code points, and its bytes. -/
namespace Go.Proofs.YtdelpialeajajaaGreatDoor
open Go Go.RowKit
set_option maxRecDepth 10000

theorem offI_succ0 (r : Int) (rs : List Int) (i : Nat) : offI (r :: rs) (i + 1) = (enc r).length + offI rs i := by
  unfold offI
  rw [List.take_succ_cons, List.flatMap_cons, List.length_append]
/-- what is read is a point that may stand -/
theorem decN_ok (l : List UInt8) : okPt (decN l).1 := by
  have hb := (l.getD 0 0).toNat_lt
  have hb1 := (l.getD 1 0).toNat_lt
  have hb2 := (l.getD 2 0).toNat_lt
  have hb3 := (l.getD 3 0).toNat_lt
  unfold okPt decN Lib.decodeN
  repeat' split
  all_goals (simp only []; omega)
theorem enc_pt (n : Nat) (h : okPt n) : OkR (n : Int) ∧ enc (n : Int) = Lib.encodeRune (n : Int) := by
  have hv : Utf8.valid (n : Int) = true := by unfold Utf8.valid; unfold okPt at h; simp; omega
  have hn : n ≤ 1114111 := h.1
  have t : ∀ x : Int, ∀ k : Nat, x = (k : Int) → x.toNat.toUInt8 = UInt8.ofNat k := fun x k h => by rw [h]; rfl
  have tb : ∀ k : Nat, 128 ≤ k → k < 256 → 128 ≤ (UInt8.ofNat k).toNat := fun k h1 h2 => by rw [UInt8.toNat_ofNat', Nat.mod_eq_of_lt (by omega)]; exact h1
  have he : enc (n : Int) = (if n < 0x80 then [UInt8.ofNat n] else if n < 0x800 then [UInt8.ofNat (0xC0 + n / 64), UInt8.ofNat (0x80 + n % 64)]
      else if n < 0x10000 then [UInt8.ofNat (0xE0 + n / 4096), UInt8.ofNat (0x80 + n / 64 % 64), UInt8.ofNat (0x80 + n % 64)] else [UInt8.ofNat (0xF0 + n / 262144), UInt8.ofNat (0x80 + n / 4096 % 64), UInt8.ofNat (0x80 + n / 64 % 64), UInt8.ofNat (0x80 + n % 64)]) := by
    unfold enc Utf8.encode
    simp only [hv, if_true, Int.toNat_natCast]
    repeat' split
    all_goals rfl
  refine ⟨⟨by omega, fun h1 => ?_, fun h1 => ?_⟩, ?_⟩
  · rw [he, if_pos (by omega)]
    rfl
  · rw [he, if_neg (by omega)]
    split
    · exact ⟨by simp, fun c hc => by
        simp only [List.mem_cons, List.not_mem_nil, or_false] at hc
        rcases hc with rfl | rfl
        · exact tb _ (by omega) (by omega)
        · exact tb _ (by omega) (by omega)⟩
    split
    · exact ⟨by simp, fun c hc => by
        simp only [List.mem_cons, List.not_mem_nil, or_false] at hc
        rcases hc with rfl | rfl | rfl
        · exact tb _ (by omega) (by omega)
        · exact tb _ (by omega) (by omega)
        · exact tb _ (by omega) (by omega)⟩
    · exact ⟨by simp, fun c hc => by
        simp only [List.mem_cons, List.not_mem_nil, or_false] at hc
        rcases hc with rfl | rfl | rfl | rfl
        · exact tb _ (by omega) (by omega)
        · exact tb _ (by omega) (by omega)
        · exact tb _ (by omega) (by omega)
        · exact tb _ (by omega) (by omega)⟩
  · rw [he]
    unfold okPt at h
    unfold Lib.encodeRune
    by_cases c1 : n < 128
    · rw [if_pos c1, Lib.encodeRuneZ_one (by omega) (by omega)]
      simp only [List.map_cons, List.map_nil]
      rw [t _ n rfl]
    rw [if_neg c1]
    by_cases c2 : n < 2048
    · rw [if_pos c2, Lib.encodeRuneZ_two (by omega) (by omega)]
      simp only [List.map_cons, List.map_nil]
      rw [t _ (192 + n / 64) (by omega), t _ (128 + n % 64) (by omega)]
    rw [if_neg c2]
    by_cases c3 : n < 65536
    · rw [if_pos c3, Lib.encodeRuneZ_three (by omega)]
      simp only [List.map_cons, List.map_nil]
      rw [t _ (224 + n / 4096) (by omega), t _ (128 + n / 64 % 64) (by omega), t _ (128 + n % 64) (by omega)]
    · rw [if_neg c3, Lib.encodeRuneZ_four (by omega) (by omega)]
      simp only [List.map_cons, List.map_nil]
      rw [t _ (240 + n / 262144) (by omega), t _ (128 + n / 4096 % 64) (by omega), t _ (128 + n / 64 % 64) (by omega), t _ (128 + n % 64) (by omega)]

/-- a text's points, and its bytes -/
theorem runes_bytes : ∀ (n : Nat) (l : List UInt8), l.length ≤ n → (∀ r ∈ runesL l, OkR r) ∧ (runesL l).flatMap enc = l.take (ptsL l).2 ∧ (runesL l).length = (ptsL l).1.length ∧
    ∀ i, i ≤ (runesL l).length → (ptsL (l.take (offI (runesL l) i))).1.length = i
  | 0, l, h => by
    have : l = [] := List.eq_nil_of_length_eq_zero (by omega)
    subst this
    refine ⟨fun r hr => (by rw [runesL_nil] at hr; cases hr), by rw [runesL_nil]; simp, by rw [runesL_nil, ptsL_nil]; rfl, fun i hi => ?_⟩
    rw [runesL_nil] at hi
    have : i = 0 := by simpa using hi
    rw [List.take_nil, ptsL_nil, this]
    rfl
  | n + 1, l, h => by
    by_cases hl : l = []
    · subst hl
      refine ⟨fun r hr => (by rw [runesL_nil] at hr; cases hr), by rw [runesL_nil]; simp, by rw [runesL_nil, ptsL_nil]; rfl, fun i hi => ?_⟩
      rw [runesL_nil] at hi
      have : i = 0 := by simpa using hi
      rw [List.take_nil, ptsL_nil, this]
      rfl
    by_cases h0 : sizeL l = 0
    · have hr0 : runesL l = [] := by rw [runesL, dif_pos (.inr h0)]
      refine ⟨fun r hr => (by rw [hr0] at hr; cases hr), by rw [hr0, ptsL_bad h0]; simp, by rw [hr0, ptsL_bad h0]; rfl, fun i hi => ?_⟩
      rw [hr0] at hi
      have : i = 0 := by simpa using hi
      rw [this]
      show (ptsL (l.take 0)).1.length = 0
      rw [List.take_zero, ptsL_nil]
      rfl
    · have hle := sizeL_le l
      obtain ⟨i1, i2, i3, i4⟩ := runes_bytes n (l.drop (sizeL l)) (by simp; omega)
      have hp := enc_pt _ (decN_ok l)
      have hd : (decN l).2 = sizeL l ∧ ¬ ((decN l).1 = 65533 ∧ (decN l).2 = 1) := by
        cases l with
        | nil => exact absurd rfl hl
        | cons a r =>
          rcases size_ok a r with ⟨q, _⟩ | ⟨q1, q2, q3⟩
          · exact absurd q h0
          · exact ⟨q1.symm, q3⟩
      have hen : enc ((decN l).1 : Int) = l.take (sizeL l) := by
        rw [hp.2]
        have he := Lib.encode_decode l hl (by rw [decL_N]; exact hd.2)
        rw [decL_N] at he
        rw [he, hd.1]
      have hel : (enc ((decN l).1 : Int)).length = sizeL l := by rw [hen, List.length_take]; omega
      rw [runesL_step hl h0, ptsL_step hl h0]
      refine ⟨fun r hr => ?_, ?_, by simp [i3], fun i hi => ?_⟩
      · rcases List.mem_cons.1 hr with rfl | hr
        · exact hp.1
        · exact i1 r hr
      · rw [List.flatMap_cons, i2, hen, List.take_add]
      · cases i with
        | zero =>
          show (ptsL (l.take 0)).1.length = 0
          rw [List.take_zero, ptsL_nil]
          rfl
        | succ i =>
          rw [offI_succ0, hel]
          have ih := i4 i (by simpa using hi)
          have hs : sizeL (l.take (sizeL l + offI (runesL (l.drop (sizeL l))) i)) = sizeL l := sizeL_take h0 (Nat.le_add_right _ _)
          have hne : l.take (sizeL l + offI (runesL (l.drop (sizeL l))) i) ≠ [] := by
            intro q
            have := congrArg List.length q
            rw [List.length_take, List.length_nil] at this
            have := List.length_pos_iff.2 hl
            omega
          rw [ptsL_step hne (by rw [hs]; exact h0), hs, List.drop_take, Nat.add_sub_cancel_left]
          simp [ih]

theorem bp_of (s : ByteArray) (h : (ptsL s.data.toList).2 = s.size) : BpE s (runesL s.data.toList) where
  ok := (runes_bytes _ s.data.toList (Nat.le_refl _)).1
  eq := by
    rw [(runes_bytes _ s.data.toList (Nat.le_refl _)).2.1, h, List.take_of_length_le (by simp)]
theorem count_off (s : ByteArray) {i : Nat} (hi : i ≤ (runesL s.data.toList).length) : (ptsL (s.data.toList.take (offI (runesL s.data.toList) i))).1.length = i :=
  (runes_bytes _ s.data.toList (Nat.le_refl _)).2.2.2 i hi
end Go.Proofs.YtdelpialeajajaaGreatDoor

/- The document's Names. -/
namespace Go.Proofs.YtdelpialeajajaaGreatDoor
open Go Go.RowKit
set_option maxRecDepth 10000

def nameD (s : ByteArray) (m : Mk) : List (Wd × Nat) := if m.name = [] then [] else [(m.name, countD s m.pl)]
def namesD (s : ByteArray) (l : List Mk) : List (Wd × Nat) := l.flatMap (nameD s)
theorem nameD_len (s : ByteArray) (m : Mk) : (nameD s m).length ≤ 1 := by
  unfold nameD
  split
  · exact Nat.zero_le _
  · exact Nat.le_refl _

theorem own_lift {W : World} {a b : Nat} {e : TypeId} {size n : Nat} {v : Value} {xs : List Value} (h : W.ownsRow b e size v n xs) (hab : a ≤ b) : W.ownsRow a e size v n xs := by
  obtain ⟨h1, h2⟩ := h
  refine ⟨h1, ?_⟩
  rcases h2 with h2 | ⟨g, cap, cur, hv, hg, rest⟩
  · exact .inl h2
  · exact .inr ⟨g, cap, cur, hv, Nat.le_trans hab hg, rest⟩

/-- two rows of the call's own, apart -/
structure TwoR (A : Nat) (wr : World) (vo vp : Value) (acc : List (Wd × Nat)) : Prop where
  o : wr.ownsRow A 9 1 vo acc.length (acc.map fun x => strv x.1)
  p : wr.ownsRow A 3 1 vp acc.length (acc.map fun x => Value.int .i64 (x.2 : Nat))
  d : ∀ g, vo.ownBlock = some g → vp.ownBlock ≠ some g
theorem TwoR.below {A : Nat} {w w' : World} {vo vp : Value} {acc : List (Wd × Nat)} (h : TwoR A w vo vp acc) (hb : Below w.heap.size w w') : TwoR A w' vo vp acc := ⟨own_below h.o hb, own_below h.p hb, h.d⟩

def NamesQ (s : ByteArray) (w : World) (e : Ending) (w' : World) : Prop :=
  ∃ vo vp, e = .returned (.tuple #[vo, vp, .int .i64 ((readD s).2.1 : Nat), .int .i64 ((readD s).2.2 : Nat)]) ∧ TwoR w.heap.size w' vo vp (namesD s (readD s).1) ∧ Below w.heap.size w w'

structure NmI (s : ByteArray) (A : Nat) (w : World) (l : List Mk) (i : Nat) (vo vp : Value) (acc : List (Wd × Nat)) (wr : World) : Prop where
  two : TwoR A wr vo vp acc
  below : Below A w wr
  eq : acc = namesD s (l.take i)
  len : acc.length ≤ i

set_option maxHeartbeats 8000000 in
theorem names_any (s : ByteArray) (w : World) (hs : s.size ≤ 1000000000) (hok : 1000 < s.size ∨ (ptsL s.data.toList).2 < s.size ∨ RdOk s) (hpl : ∀ m ∈ (readD s).1, m.pl ≤ s.size) (hln : (readD s).1.length ≤ 1000000) : Calls Tryz.prog 12 #[.string s] w (NamesQ s w) := by
  have HRD := Lib.hid (readD_any s w hs hok)
  obtain ⟨⟨l, e0, a0⟩, hr⟩ : ∃ x, readD s = x := ⟨_, rfl⟩
  have HR := Lib.hid hr
  have HRD := Lib.hid (show Calls Tryz.prog 22 #[.string s] w fun e w' => ∃ v, e = .returned (.tuple #[v, .int .i64 (e0 : Nat), .int .i64 (a0 : Nat)]) ∧ MarksAt w' v l ∧ Below w.heap.size w w' from HRD.out.mono (by
    rintro e w' ⟨v, rfl, h1, h2⟩
    rw [hr] at h1 ⊢
    exact ⟨v, rfl, h1, h2⟩))
  rw [hr] at hpl hln
  have HPL := Lib.hid hpl
  obtain ⟨A, hA⟩ : ∃ A, w.heap.size = A := ⟨_, rfl⟩
  have HA := Lib.hid hA
  clear hr hpl hok hA
  go_enter Tryz.func12, Tryz.ntmps12
  go_wp2_with fail
  refine HRD.out.mono ?_
  rintro e w2 ⟨v, rfl, hm, hb⟩
  obtain ⟨ma, mc, rfl⟩ := hm.sl
  have HM := Lib.hid hm
  obtain ⟨n, hn⟩ : ∃ n, l.length = n := ⟨_, rfl⟩
  have HN := Lib.hid hn
  rw [hn] at hln ⊢
  have hbA : Below A w w2 := by have := hb; rw [HA.out] at this; exact this
  have HB := Lib.hid hbA
  have HRW := Lib.hid (fun h => hm.row h)
  have hAs : A ≤ w2.heap.size := by have := hb.size; have := HA.out; omega
  obtain ⟨B, hB⟩ : ∃ B, w2.heap.size = B := ⟨_, rfl⟩
  have HBB := Lib.hid hB
  rw [hB] at hAs
  have HRF := Lib.hid (show Below B w2 w2 from Below.refl _ _)
  clear hm hb hbA hn hB
  go_wp2_with fail
  go_loopw [9, 10, 11] (fun vo vp iv wr => ∃ (i : Nat) (acc : List (Wd × Nat)), iv = .int .i64 (i : Nat) ∧ i ≤ n ∧ NmI s B w2 l i vo vp acc wr) (fun _ _ iv _ => n - (intOf iv).toNat)
  case atStart => exact ⟨0, [], rfl, Nat.zero_le _, ⟨⟨World.ownsRow_nil _ _ _ _, World.ownsRow_nil _ _ _ _, fun g h => by cases h⟩, HRF.out, rfl, Nat.zero_le _⟩⟩
  case round =>
    obtain ⟨i, acc, rfl, hi, hq⟩ := hrel
    have hbr := hq.below
    have HQ := Lib.hid hq
    have HBR := Lib.hid hbr
    have hal := hq.len
    obtain ⟨na, hna⟩ : ∃ n, acc.length = n := ⟨_, rfl⟩
    have HNA := Lib.hid hna
    rw [hna] at hal
    have ho := hq.two.o
    have hp := hq.two.p
    rw [hna] at ho hp
    obtain ⟨oa, oc, rfl⟩ := own_slice ho
    obtain ⟨pa, pc, rfl⟩ := own_slice hp
    have HO := Lib.hid ho
    have HP := Lib.hid hp
    have HD := Lib.hid hq.two.d
    have hBr : B ≤ wr.heap.size := HBB.out ▸ hbr.size
    have HBR2 := Lib.hid (show Below w2.heap.size w2 wr from HBB.out.symm ▸ hbr)
    clear hq hbr hna ho hp
    by_cases hlt : i < n
    · have hltI : (i : Int) < (n : Int) := by omega
      have hil : i < l.length := by rw [HN.out]; exact hlt
      obtain ⟨g, cap', hg1, hrow⟩ := HRW.out (by omega)
      rw [HN.out] at hg1
      obtain rfl : ma = some ⟨g, 0, none⟩ := by cases hg1; rfl
      clear hg1
      have HROW := Lib.hid hrow
      obtain ⟨-, -, c2, -, -, c5⟩ := (hrow.below HBR2.out).at_ i hil
      obtain ⟨m, hm⟩ : ∃ m, mkA l i = m := ⟨_, rfl⟩
      rw [hm] at c2 c5
      have HMK := Lib.hid (show l[i] = m by rw [← mkA_lt hil]; exact hm)
      obtain ⟨nm, hnm⟩ : ∃ t, m.name = t := ⟨_, rfl⟩
      obtain ⟨pl, hpl⟩ : ∃ t, m.pl = t := ⟨_, rfl⟩
      rw [hnm] at c2
      rw [hpl] at c5
      have hpls : pl ≤ s.size := by rw [← hpl]; exact HPL.out m (HMK.out ▸ List.getElem_mem hil)
      have hplsI : (pl : Int) ≤ (s.size : Int) := by omega
      have HTK := Lib.hid (show namesD s (l.take (i + 1)) = acc ++ nameD s m by
        rw [List.take_succ_eq_append_getElem hil, HQ.out.eq, HMK.out]
        simp [namesD])
      have HNM := Lib.hid hnm
      have HPLM := Lib.hid hpl
      have HC5 := Lib.hid c5
      have HC2 := Lib.hid c2
      clear hrow hm hnm hpl
      by_cases h0 : nm = []
      · have HE := Lib.hid (show nameD s m = [] by unfold nameD; rw [HNM.out, if_pos h0])
        subst h0
        clear c5
        go_wp2_with fail
        go_roundw
        case rel => exact ⟨i + 1, acc, by go_num, by omega, ⟨⟨HNA.out ▸ HO.out, HNA.out ▸ HP.out, HD.out⟩, HQ.out.below, by rw [HTK.out, HE.out, List.append_nil], by rw [HNA.out]; omega⟩⟩
        case measure => simp [intOf]; omega
      · have g0 : List.isEmpty nm = false := by cases nm with | nil => exact absurd rfl h0 | cons _ _ => rfl
        have g1 : (nm == []) = false := beq_eq_false_iff_ne.2 h0
        have g2 : (nm != []) = true := by rw [bne, g1]; rfl
        have HE := Lib.hid (show nameD s m = [(nm, countD s pl)] by unfold nameD; rw [HNM.out, if_neg h0, HPLM.out])
        clear h0
        go_wp2_with (at_builtin; refine list_gen ?_)
        intro W1 hW1
        have hb1 : Below wr.heap.size wr W1 := by rw [hW1]; exact (Below.refl _ _).alloc (Nat.le_refl _) _
        have hC := fun i => cell_made wr #[strv nm] 9 (0, 0) i
        rw [← hW1] at hC
        have s1 : W1.heap.size = wr.heap.size + 1 := by rw [hW1]; simp
        have HB1 := Lib.hid hb1
        have HO1 := Lib.hid (own_below HO.out hb1)
        clear hW1 hb1
        refine app_at elem_strs rfl _ _ rfl B _ na (acc.map fun x : Wd × Nat => strv x.1) rfl HO1.out ⟨wr.heap.size, 0, none⟩ 1 1 [strv nm] rfl rfl ?x1 ?x2 (by omega) (by omega) ?x3
        case x1 => exact cells_one (hC 0)
        case x2 =>
          intro u hu
          simp at hu
          subst hu
          rfl
        intro vo' W2 ho2 hg2 hat2
        obtain ⟨oa2, oc2, rfl⟩ := own_slice ho2
        have hb2 : Below B w2 W2 := ((HBR.out.trans (HB1.out.mono hBr))).grown hg2 (by omega) (fun q hq => (HO1.out.lt q hq).1)
        have HP2 := Lib.hid (own_keptZ (own_below HP.out HB1.out) hg2 (fun q hq e => HD.out q e hq))
        have hd2 : ∀ q, (Value.slice oa2 (na + 1) oc2).ownBlock = some q → (Value.slice pa na pc).ownBlock ≠ some q := by
          intro q hq e
          rcases hat2 with k | k
          · rw [k] at hq
            exact HD.out q hq e
          · rw [k] at hq
            cases hq
            have := (HP.out.lt _ e).2
            omega
        have HD2 := Lib.hid hd2
        have HO2 := Lib.hid ho2
        have HB2 := Lib.hid hb2
        have c5 := ((HROW.out.below (HBB.out.symm ▸ hb2)).at_ i hil).2.2.2.2.2
        rw [mkA_lt hil, HMK.out, HPLM.out] at c5
        have hs2 : wr.heap.size ≤ W2.heap.size := by have := hg2.size; omega
        have HPT := Lib.hid (points_any ⟨(s.data.toList.take pl).toArray⟩ W2 (by show (s.data.toList.take pl).length ≤ 1000000000; rw [List.length_take, size_toList]; omega))
        obtain ⟨cn, hcn⟩ : ∃ c, countD s pl = c := ⟨_, rfl⟩
        have HCN := Lib.hid hcn
        have HPT := Lib.hid (show Calls Tryz.prog 26 #[.string (s.extract 0 pl)] W2 fun e w' => ∃ v x, e = .returned (.tuple #[v, .int .i64 (x : Nat)]) ∧ (∃ a c, v = .slice a cn c) ∧ Below W2.heap.size W2 w' by
          rw [extract_take, ← hcn]
          refine HPT.out.mono ?_
          rintro e w' ⟨v, rfl, h1, h2⟩
          exact ⟨v, _, rfl, own_slice h1, h2⟩)
        clear hb2 ho2 hg2 hat2 hd2 hC c2 hcn
        go_wp2_with fail
        refine HPT.out.mono ?_
        rintro e W3 ⟨u3, x3, rfl, ⟨va, vc, rfl⟩, hb3⟩
        have hsz2 : B ≤ W2.heap.size := by have := HB2.out.size; have := HBB.out; omega
        have HB3 := Lib.hid (HB2.out.trans (hb3.mono hsz2))
        have HO3 := Lib.hid (own_below HO2.out hb3)
        have HP3 := Lib.hid (own_below HP2.out hb3)
        have hs3 := hb3.size
        clear hb3 c5
        go_wp2_with (at_builtin; refine list_gen ?_)
        intro W4 hW4
        have hb4 : Below W3.heap.size W3 W4 := by rw [hW4]; exact (Below.refl _ _).alloc (Nat.le_refl _) _
        have hC := fun i => cell_made W3 #[.int .i64 (cn : Nat)] 3 (0, 0) i
        rw [← hW4] at hC
        have s4 : W4.heap.size = W3.heap.size + 1 := by rw [hW4]; simp
        have HO4 := Lib.hid (own_below HO3.out hb4)
        have HP4 := Lib.hid (own_below HP3.out hb4)
        have hsz3 : B ≤ W3.heap.size := by have := HB3.out.size; have := HBB.out; omega
        have HB4 := Lib.hid (HB3.out.trans (hb4.mono hsz3))
        clear hW4 hb4
        refine app_at elem_ints rfl _ _ rfl B _ na (acc.map fun x : Wd × Nat => Value.int .i64 (x.2 : Nat)) rfl HP4.out ⟨W3.heap.size, 0, none⟩ 1 1 [.int .i64 (cn : Nat)] rfl rfl ?y1 ?y2 (by omega) (by omega) ?y3
        case y1 => exact cells_one (hC 0)
        case y2 =>
          intro u hu
          simp at hu
          subst hu
          rfl
        intro vp' W5 hp5 hg5 hat5
        obtain ⟨pa2, pc2, rfl⟩ := own_slice hp5
        have HB5 := Lib.hid (HB4.out.grown hg5 (by omega) (fun q hq => (HP4.out.lt q hq).1))
        have HO5 := Lib.hid (own_keptZ HO4.out hg5 (fun q hq e => HD2.out q hq e))
        have hd5 : ∀ q, (Value.slice oa2 (na + 1) oc2).ownBlock = some q → (Value.slice pa2 (na + 1) pc2).ownBlock ≠ some q := by
          intro q hq e
          rcases hat5 with k | k
          · rw [k] at e
            exact HD2.out q hq e
          · rw [k] at e
            cases e
            have := (HO4.out.lt _ hq).2
            have := (HO3.out.lt _ hq).2
            omega
        have HD5 := Lib.hid hd5
        have HP5 := Lib.hid hp5
        clear hp5 hg5 hat5 hd5 hC
        go_wp2
        go_roundw
        case rel =>
          refine ⟨i + 1, acc ++ [(nm, cn)], by go_num, by omega, ⟨⟨?_, ?_, HD5.out⟩, HB5.out, by rw [HTK.out, HE.out, HCN.out], by simp [HNA.out]; omega⟩⟩
          · rw [show (acc ++ [(nm, cn)]).length = na + 1 by simp [HNA.out]]
            simpa using HO5.out
          · rw [show (acc ++ [(nm, cn)]).length = na + 1 by simp [HNA.out]]
            simpa using HP5.out
        case measure => simp [intOf]; omega
    · have hin : i = n := by omega
      subst hin
      have HF := Lib.hid (show acc = namesD s l by rw [HQ.out.eq, List.take_of_length_le (by rw [HN.out]; omega)])
      go_wp2
      refine bodyPost_ret (v := .tuple #[.slice oa na oc, .slice pa na pc, .int .i64 (e0 : Nat), .int .i64 (a0 : Nat)]) ?_ rfl ?_
      · simp [results, Tryz.results12, go_sem]
      unfold NamesQ
      rw [HR.out, ← HF.out, HA.out]
      exact ⟨_, _, rfl, ⟨own_lift (HNA.out ▸ HO.out) hAs, own_lift (HNA.out ▸ HP.out) hAs, HD.out⟩, HB.out.trans (HBR.out.mono hAs)⟩
end Go.Proofs.YtdelpialeajajaaGreatDoor

/- The plain law of patterns: what the program reads is what the document reads. -/
namespace Go.Proofs.YtdelpialeajajaaGreatDoor
open Go Go.RowKit
set_option maxRecDepth 10000

theorem markGo_add (s : ByteArray) (b : Nat) : ∀ (a : Nat) (x : Sc), markGo s (a + b) x = markGo s b (markGo s a x)
  | 0, x => by rw [Nat.zero_add]; rfl
  | a + 1, x => by
    by_cases h : x.err = 0 ∧ x.i < s.size
    · rw [show a + 1 + b = a + b + 1 by omega, markGo_more h, markGo_more h, markGo_add s b a]
    · rw [markGo_stop h, markGo_stop h, markGo_stop h]
theorem markGo_stops (s : ByteArray) : ∀ (n : Nat) (x : Sc), OkS x → s.size < x.i + n → ¬ ((markGo s n x).err = 0 ∧ (markGo s n x).i < s.size)
  | 0, x, _, h => fun q => by
    have := q.2
    simp only [markGo] at this
    omega
  | n + 1, x, ho, h => by
    by_cases hc : x.err = 0 ∧ x.i < s.size
    · rw [markGo_more hc]
      have h1 := ok_one s x ho hc.1 hc.2
      by_cases he : (oneS s x).err = 0
      · exact markGo_stops s n _ h1.1 (by have := h1.2.2 he; omega)
      · rw [markGo_stop (fun q => he q.1)]
        exact fun q => he q.1
    · rw [markGo_stop hc]
      exact hc
theorem okS_start : OkS startS := ⟨Nat.zero_le _, Nat.zero_le _, fun m hm => by cases hm⟩
/-- where the reader comes to an end -/
theorem goes_end {s : ByteArray} {y : Sc} (h : Goes s startS y) (hy : ¬ (y.err = 0 ∧ y.i < s.size)) : markGo s (s.size + 1) startS = y := by
  obtain ⟨n, hn⟩ := h
  have h1 := hn (s.size + 1)
  rw [markGo_stop hy, Nat.add_comm, markGo_add] at h1
  rw [markGo_stop (markGo_stops s (s.size + 1) startS okS_start (by show s.size < 0 + (s.size + 1); omega))] at h1
  exact h1
theorem marksS_bad {s : ByteArray} {y : Sc} {e a : Nat} (h : Goes s startS y) (hb : Bad e a y) : marksS s = y := by
  have he : ¬ y.err = 0 := by rw [hb.err]; exact hb.ne
  have h1 := goes_end h (fun q => he q.1)
  unfold marksS
  dsimp only
  rw [h1, if_neg (fun q => he q.1)]
theorem marksS_open {s : ByteArray} {y : Sc} (h : Goes s startS y) (h0 : y.err = 0) (hi : s.size ≤ y.i) (ho : y.opn ≠ []) : (marksS s).err = 3 ∧ (marksS s).place = s.size := by
  have h1 := goes_end h (fun q => by omega)
  unfold marksS
  dsimp only
  rw [h1, if_pos ⟨h0, ho⟩]
  unfold faultS
  rw [if_pos h0]
  exact ⟨rfl, rfl⟩
theorem marksS_done {s : ByteArray} {O : List Mk} (h : Goes s startS ⟨s.size, O, [], 0, 0⟩) : marksS s = ⟨s.size, O, [], 0, 0⟩ := by
  have h1 := goes_end h (fun q => Nat.lt_irrefl _ q.2)
  unfold marksS
  dsimp only
  rw [h1, if_neg (fun q => q.2 rfl)]

/-- a pattern that is a fault on both sides -/
structure LawE (s : ByteArray) (e a : Nat) : Prop where
  p : readP s.data.toList = .error (e, a)
  d : readD s = ([], e, a)
  ne : e ≠ 0
/-- a pattern that is a message on both sides -/
structure LawM (s : ByteArray) (rs : List Int) (f : Fo) : Prop where
  p : readP s.data.toList = .ok f
  d : readD s = (marksF rs f, 0, 0)
  names : namesD s (marksF rs f) = headsF f
  pl : ∀ m ∈ marksF rs f, m.pl ≤ s.size
  len : (marksF rs f).length ≤ 1000000

theorem names_marks (s : ByteArray) (h : ∀ i, i ≤ (runesL s.data.toList).length → countD s (offI (runesL s.data.toList) i) = i) : ∀ f : Fo, f.fit (runesL s.data.toList).length → namesD s (marksF (runesL s.data.toList) f) = headsF f
  | .nil, _ => rfl
  | .text t r, hf => names_marks s h r hf
  | .hash r, hf => names_marks s h r hf
  | .put n a r, hf => by
    have ih := names_marks s h r hf.2.2
    unfold namesD at ih ⊢
    rw [marksF, List.flatMap_cons, ih, headsF]
    unfold nameD
    rw [if_neg hf.1]
    show (n, countD s (offI _ a)) :: _ = _
    rw [h a (Nat.le_of_lt hf.2.1)]
    rfl
  | .num n a r, hf => by
    have ih := names_marks s h r hf.2.2
    unfold namesD at ih ⊢
    rw [marksF, List.flatMap_cons, ih, headsF]
    unfold nameD
    rw [if_neg hf.1]
    show (n, countD s (offI _ a)) :: _ = _
    rw [h a (Nat.le_of_lt hf.2.1)]
    rfl
  | .br n a fo o c bs r, hf => by
    obtain ⟨f1, f2, f3, f4, f5, f6⟩ := hf
    have ih := names_marks s h r f6
    have ih2 := names_marks s h bs f5
    unfold namesD at ih ih2 ⊢
    rw [marksF, List.flatMap_cons, List.flatMap_append, List.flatMap_cons, ih, ih2, headsF]
    unfold nameD
    rw [if_neg f1, if_pos rfl]
    show (n, countD s (offI _ a)) :: _ = _
    rw [h a (Nat.le_of_lt f2)]
    rfl
  | .leg k a m r, hf => by
    obtain ⟨f1, f2, f3⟩ := hf
    have ih := names_marks s h r f3
    have ih2 := names_marks s h m f2
    unfold namesD at ih ih2 ⊢
    rw [marksF, List.flatMap_cons, List.flatMap_append, List.flatMap_cons, ih, ih2, headsF]
    unfold nameD
    rw [if_pos rfl, if_pos rfl]
    rfl
theorem marks_pl {s : ByteArray} {rs : List Int} (E : BpE s rs) : ∀ f : Fo, ∀ m ∈ marksF rs f, m.pl ≤ s.size
  | .nil, m, h => by cases h
  | .text t r, m, h => by
    rcases List.mem_cons.1 h with rfl | h
    · exact Nat.zero_le _
    · exact marks_pl E r m h
  | .hash r, m, h => by
    rcases List.mem_cons.1 h with rfl | h
    · exact Nat.zero_le _
    · exact marks_pl E r m h
  | .put n a r, m, h => by
    rcases List.mem_cons.1 h with rfl | h
    · exact E.le a
    · exact marks_pl E r m h
  | .num n a r, m, h => by
    rcases List.mem_cons.1 h with rfl | h
    · exact E.le a
    · exact marks_pl E r m h
  | .br n a fo o c bs r, m, h => by
    rcases List.mem_cons.1 h with rfl | h
    · exact E.le a
    rcases List.mem_append.1 h with h | h
    · exact marks_pl E bs m h
    rcases List.mem_cons.1 h with rfl | h
    · exact E.le c
    · exact marks_pl E r m h
  | .leg k a mm r, m, h => by
    rcases List.mem_cons.1 h with rfl | h
    · exact E.le a
    rcases List.mem_append.1 h with h | h
    · exact marks_pl E mm m h
    rcases List.mem_cons.1 h with rfl | h
    · exact Nat.zero_le _
    · exact marks_pl E r m h

/-- the law: both sides read a pattern as the same -/
theorem read_law (s : ByteArray) : (1000 < s.size ∨ (ptsL s.data.toList).2 < s.size ∨ RdOk s) ∧ ((∃ e a, LawE s e a) ∨ ∃ f, LawM s (runesL s.data.toList) f) := by
  by_cases hl : 1000 < s.size
  · refine ⟨.inl hl, .inl ⟨1, 0, ?_, if_pos hl, by decide⟩⟩
    unfold readP parseR
    rw [if_pos (by simpa using hl)]
  by_cases hp : (ptsL s.data.toList).2 < s.size
  · refine ⟨.inr (.inl hp), .inl ⟨2, (ptsL s.data.toList).1.length, ?_, ?_, by decide⟩⟩
    · unfold readP parseR
      rw [if_neg (by simpa using hl), if_pos (by simpa using hp)]
    · unfold readD
      rw [if_neg hl, if_pos hp]
  have hle := pts_le _ s.data.toList (Nat.le_refl _)
  rw [size_toList] at hle
  have hpe : (ptsL s.data.toList).2 = s.size := by omega
  have E := bp_of s hpe
  have hcnt : ∀ i, i ≤ (runesL s.data.toList).length → countD s (offI (runesL s.data.toList) i) = i := fun i hi => count_off s hi
  have hD : readD s = if (firstD s).1 ≠ 0 then ([], (firstD s).1, countD s (firstD s).2) else ((marksS s).out, 0, 0) := by
    unfold readD
    rw [if_neg hl, if_neg hp]
  have hPR : parseR s.data.toList = (match parseL (runesL s.data.toList) with | .error e => .error e | .ok x => .ok x.1) := by
    unfold parseR
    rw [if_neg (by simpa using hl), if_neg (by simpa using hp)]
    rfl
  have hsim := E.parse
  -- the document's reader stops at a fault
  have bad : ∀ e a, e ≠ 0 → a ≤ (runesL s.data.toList).length → (marksS s).err = e → (marksS s).place = offI (runesL s.data.toList) a → RdOk s ∧ readD s = ([], e, a) := by
    intro e a h0 ha h1 h2
    have hf : firstD s = (e, offI (runesL s.data.toList) a) := by
      unfold firstD
      rw [if_neg (by rw [h1]; exact h0), h1, h2]
    refine ⟨⟨fun q => absurd (h1.symm.trans q) h0, fun _ => by rw [hf]; exact E.le a, fun q => absurd (h1.symm.trans q) h0⟩, ?_⟩
    rw [hD, hf, if_pos h0]
    show ([], e, countD s (offI _ a)) = _
    rw [hcnt a ha]
  cases hpar : parseL (runesL s.data.toList) with
  | error x =>
    obtain ⟨e, a⟩ := x
    rw [hpar] at hsim
    obtain ⟨ha, y, hg, hy⟩ := hsim
    have hPe : readP s.data.toList = .error (e, a) := by
      unfold readP
      rw [hPR, hpar]
    rcases hy with hb | ⟨h0, hi, ho, rfl, rfl⟩
    · have hm := marksS_bad hg hb
      have := bad e a hb.ne ha (by rw [hm]; exact hb.err) (by rw [hm]; exact hb.pl)
      exact ⟨.inr (.inr this.1), .inl ⟨e, a, hPe, this.2, hb.ne⟩⟩
    · have hm := marksS_open hg h0 hi ho
      have := bad 3 _ (by decide) ha hm.1 (by rw [hm.2]; exact E.size)
      exact ⟨.inr (.inr this.1), .inl ⟨3, _, hPe, this.2, by decide⟩⟩
  | ok x =>
    obtain ⟨f, j⟩ := x
    rw [hpar] at hsim
    have hm := marksS_done hsim
    have hfit := E.parse_fit hpar
    have hok : OkS (marksS s) := by
      have h1 := (markGo_ok s (s.size + 1) startS okS_start).1
      rw [goes_end hsim (fun q => Nat.lt_irrefl _ q.2)] at h1
      rw [hm]
      exact h1
    have hlen : (marksF (runesL s.data.toList) f).length ≤ 1000000 := by
      have := hok.n
      rw [hm] at this
      have h2 : (marksF (runesL s.data.toList) f).length ≤ 2 * s.size := this
      omega
    have hfd : firstD s = faultsD (marksF (runesL s.data.toList) f) := by
      unfold firstD
      rw [hm]
      rfl
    have hwf : ∀ (L : List Mk), (marksS s).out = L → L = marksF (runesL s.data.toList) f → ∀ i (h : i < L.length), L[i].kind = 40 → endL L i < L.length := by
      rintro L - rfl i hi hk
      have := end_in (runesL s.data.toList) f [] [] i (Nat.zero_le _) (by simpa using hi) (by
        rw [List.nil_append, List.append_nil]
        unfold mkA
        rw [List.getD_eq_getElem?_getD, List.getElem?_eq_getElem hi]
        exact hk)
      simpa using this
    have rd : (firstD s).2 ≤ s.size → RdOk s := fun h => ⟨fun _ i hi hk => hwf _ rfl (by rw [hm]) i hi hk, fun _ => h, fun _ => by rw [hm]; exact hlen⟩
    rcases faults_law E hfit with ⟨c1, c2⟩ | ⟨e, a, c1, c2, c3, c4⟩
    · refine ⟨.inr (.inr (rd (by rw [hfd, c2]; exact Nat.zero_le _))), .inr ⟨f, by unfold readP; rw [hPR, hpar]; dsimp only; rw [c1], ?_, names_marks s hcnt f hfit, marks_pl E f, hlen⟩⟩
      rw [hD, hfd, c2, if_neg (fun q => q rfl), hm]
    · refine ⟨.inr (.inr (rd (by rw [hfd, c4]; exact E.le a))), .inl ⟨e, a, by unfold readP; rw [hPR, hpar]; dsimp only; rw [c1], ?_, c2⟩⟩
      rw [hD, hfd, c4, if_pos c2]
      show ([], e, countD s (offI _ a)) = _
      rw [hcnt a (Nat.le_of_lt c3)]
end Go.Proofs.YtdelpialeajajaaGreatDoor

/- The law of calls, its helpers: two lists are the same; a function that panics at its n-th call. -/
namespace Go.Proofs.YtdelpialeajajaaGreatDoor
open Go Go.RowKit
set_option maxRecDepth 10000

/-- a list of numbers in memory -/
def IntsAt (w : World) (v : Value) (ws : List Nat) : Prop := ∃ a cap, v = .slice a ws.length cap ∧ ws.length ≤ cap ∧ cap ≤ maxLen ∧ (a = none → cap = 0) ∧ ∀ j (h : j < ws.length), ∃ b, a = some b ∧ w.cell? (b.add j) = some (.int .i64 (ws[j] : Nat))
theorem IntsAt.below {w w' : World} {v : Value} {ws : List Nat} (h : IntsAt w v ws) (hb : Below w.heap.size w w') : IntsAt w' v ws := by
  obtain ⟨a, cap, hv, hl, hm, h0, hc⟩ := h
  refine ⟨a, cap, hv, hl, hm, h0, fun j hj => ?_⟩
  obtain ⟨b, hb1, hb2⟩ := hc j hj
  refine ⟨b, hb1, ?_⟩
  rw [hb.cell (World.block_lt_of_cell? w _ hb2)]
  exact hb2
theorem IntsAt.of_own {w : World} {base n : Nat} {e : TypeId} {v : Value} {ws : List Nat} (h : w.ownsRow base e 1 v n (ws.map fun x => Value.int .i64 (x : Nat))) : IntsAt w v ws := by
  have hlen : ws.length = n := by have := h.1; simpa using this
  rcases h.2 with ⟨hv, h0⟩ | ⟨g, cap, cur, hv, _, hh, h1, h2, _, ht⟩
  · subst h0
    have : ws = [] := List.eq_nil_of_length_eq_zero hlen
    subst this
    exact ⟨none, 0, hv, Nat.le_refl _, Nat.zero_le _, fun _ => rfl, fun j h => absurd h (Nat.not_lt_zero j)⟩
  · refine ⟨some ⟨g, 0, none⟩, cap, by rw [hv, hlen], by omega, h2, (fun h => by cases h), fun j hj => ⟨_, rfl, ?_⟩⟩
    subst hv
    rw [addr_add0, h.cellAt j (by omega)]
    simp [hj]
theorem StrsAt.cut {w : World} {a : Option Addr} {n cap k : Nat} {ws : List Wd} (h : StrsAt w (.slice a n cap) ws) (hk : k ≤ n) : StrsAt w (.slice a k cap) (ws.take k) := by
  obtain ⟨a', cap', hv, hl, hm, h0, hc⟩ := h
  cases hv
  have e : (ws.take k).length = k := by rw [List.length_take]; omega
  refine ⟨a, cap, by rw [e], by omega, hm, h0, fun j hj => ?_⟩
  obtain ⟨b, hb1, hb2⟩ := hc j (by omega)
  exact ⟨b, hb1, by rw [List.getElem_take]; exact hb2⟩
theorem IntsAt.cut {w : World} {a : Option Addr} {n cap k : Nat} {ws : List Nat} (h : IntsAt w (.slice a n cap) ws) (hk : k ≤ n) : IntsAt w (.slice a k cap) (ws.take k) := by
  obtain ⟨a', cap', hv, hl, hm, h0, hc⟩ := h
  cases hv
  have e : (ws.take k).length = k := by rw [List.length_take]; omega
  refine ⟨a, cap, by rw [e], by omega, hm, h0, fun j hj => ?_⟩
  obtain ⟨b, hb1, hb2⟩ := hc j (by omega)
  exact ⟨b, hb1, by rw [List.getElem_take]; exact hb2⟩
theorem strs_nil (w : World) : StrsAt w (.slice none 0 0) [] := ⟨none, 0, rfl, Nat.le_refl _, Nat.zero_le _, fun _ => rfl, fun j h => absurd h (Nat.not_lt_zero j)⟩
theorem ints_nil (w : World) : IntsAt w (.slice none 0 0) [] := ⟨none, 0, rfl, Nat.le_refl _, Nat.zero_le _, fun _ => rfl, fun j h => absurd h (Nat.not_lt_zero j)⟩

set_option maxHeartbeats 4000000 in
theorem same_any (u v : Value) (xs ys : List Wd) (w : World) (hu : StrsAt w u xs) (hv : StrsAt w v ys) (hx : xs.length ≤ 1000000) (hy : ys.length ≤ 1000000) :
    Calls Tryz.prog 13 #[u, v] w fun e w' => e = .returned (.bool (decide (xs = ys))) ∧ Below w.heap.size w w' := by
  obtain ⟨a, ac, rfl, ha1, ha2, ha3, ha4⟩ := hu
  obtain ⟨b, bc, rfl, hb1, hb2, hb3, hb4⟩ := hv
  have HA := Lib.hid ha4
  have HB := Lib.hid hb4
  obtain ⟨R, hR⟩ : ∃ R, decide (xs = ys) = R := ⟨_, rfl⟩
  have HR := Lib.hid hR
  rw [hR]
  obtain ⟨n, hn⟩ : ∃ n, xs.length = n := ⟨_, rfl⟩
  obtain ⟨m, hm⟩ : ∃ n, ys.length = n := ⟨_, rfl⟩
  have HN := Lib.hid hn
  have HM := Lib.hid hm
  rw [hn] at ha1 hx ⊢
  rw [hm] at hb1 hy ⊢
  have HRF := Lib.hid (Below.refl w.heap.size w)
  clear ha4 hb4 hR hn hm ha3 hb3 ha2 hb2
  by_cases hnm : n = m
  · subst hnm
    have j1 : ((n : Int) == (n : Int)) = true := by simp
    have j2 : ((n : Int) != (n : Int)) = false := by simp
    go_enter Tryz.func13, Tryz.ntmps13
    go_wp2_with fail
    go_loopw [5] (fun iv wr => ∃ k : Nat, iv = .int .i64 (k : Nat) ∧ k ≤ n ∧ Below w.heap.size w wr ∧ xs.take k = ys.take k) (fun iv _ => n - (intOf iv).toNat)
    case atStart => exact ⟨0, rfl, Nat.zero_le _, HRF.out, rfl⟩
    case round =>
      obtain ⟨k, rfl, hk, hbr, ht⟩ := hrel
      have HBR := Lib.hid hbr
      have HT := Lib.hid ht
      clear hbr ht
      by_cases hlt : k < n
      · have hltI : (k : Int) < (n : Int) := by omega
        have hkx : k < xs.length := by rw [HN.out]; exact hlt
        have hky : k < ys.length := by rw [HM.out]; exact hlt
        obtain ⟨ya, rfl, hca⟩ := HA.out k hkx
        obtain ⟨yb, rfl, hcb⟩ := HB.out k hky
        have cA := (HBR.out.cell (World.block_lt_of_cell? w _ hca)).trans hca
        have cB := (HBR.out.cell (World.block_lt_of_cell? w _ hcb)).trans hcb
        obtain ⟨x, hxe⟩ : ∃ x, xs[k] = x := ⟨_, rfl⟩
        obtain ⟨y, hye⟩ : ∃ x, ys[k] = x := ⟨_, rfl⟩
        rw [hxe] at cA
        rw [hye] at cB
        have HX := Lib.hid hxe
        have HY := Lib.hid hye
        have hS0 : wr.drew.cell? (ya.add k) = some (strv x) ∧ wr.drew.cell? (yb.add k) = some (strv y) := ⟨cA, cB⟩
        have HBD := Lib.hid (HBR.out.trans ((Below.refl _ _).drew (w := wr)))
        clear hca hcb hxe hye cA cB
        by_cases hq : x = y
        · have g1 : (x == y) = true := beq_iff_eq.2 hq
          have g2 : (x != y) = false := by rw [bne, g1]; rfl
          have HE := Lib.hid (show xs.take (k + 1) = ys.take (k + 1) by rw [List.take_succ_eq_append_getElem hkx, List.take_succ_eq_append_getElem hky, HT.out, HX.out, HY.out, hq])
          clear hq
          go_wp2_with fail
          refine wp_region_takes (fun W' : World => W'.cell? (ya.add k) = some (strv x) ∧ W'.cell? (yb.add k) = some (strv y)) [0, 1, 2, 3, 4, 5, 6, 7, 8] 0 (by intro _ _ d _ _ h; cases d <;> exact h) (by kernel_rfl) (by kernel_rfl) hS0 ?_
          (iterate 9 (first | (refine takes_yes (v := ?_) rfl (by rfl) ?_ ?_; rotate_left; (focus ((intro w' hS'; (try dsimp only at hS'); go_simp; try (with_reducible rfl)); done)); (try simp only [Act.put, List.setIfInBounds_toArray, List.set_cons_zero, List.set_cons_succ])) | (refine takes_no rfl (by rfl) ?_; (try simp only [Act.put, List.setIfInBounds_toArray, List.set_cons_zero, List.set_cons_succ]))))
          refine takes_nil ?_
          refine wpAnyH_done (by kernel_rfl) ?_ _
          clear hS0
          go_wp2
          go_roundw
          case rel => exact ⟨k + 1, by go_num, by omega, HBD.out, HE.out⟩
          case measure => simp [intOf]; omega
        · have g1 : (x == y) = false := beq_eq_false_iff_ne.2 hq
          have g2 : (x != y) = true := by rw [bne, g1]; rfl
          have HE := Lib.hid (show R = false by
            rw [← HR.out, decide_eq_false_iff_not]
            intro q
            apply hq
            rw [← HX.out, ← HY.out]
            simp only [q])
          clear hq
          go_wp2_with fail
          refine wp_region_takes (fun W' : World => W'.cell? (ya.add k) = some (strv x) ∧ W'.cell? (yb.add k) = some (strv y)) [0, 1, 2, 3, 4, 5, 6, 7, 8] 0 (by intro _ _ d _ _ h; cases d <;> exact h) (by kernel_rfl) (by kernel_rfl) hS0 ?_
          (iterate 9 (first | (refine takes_yes (v := ?_) rfl (by rfl) ?_ ?_; rotate_left; (focus ((intro w' hS'; (try dsimp only at hS'); go_simp; try (with_reducible rfl)); done)); (try simp only [Act.put, List.setIfInBounds_toArray, List.set_cons_zero, List.set_cons_succ])) | (refine takes_no rfl (by rfl) ?_; (try simp only [Act.put, List.setIfInBounds_toArray, List.set_cons_zero, List.set_cons_succ]))))
          refine takes_nil ?_
          refine wpAnyH_done (by kernel_rfl) ?_ _
          clear hS0
          go_wp2
          go_ret
          exact ⟨by rw [HE.out]; rfl, HBD.out⟩
      · have hkn : k = n := by omega
        subst hkn
        have HE := Lib.hid (show R = true by
          rw [← HR.out, decide_eq_true_eq]
          have h := HT.out
          rw [List.take_of_length_le (by rw [HN.out]; exact Nat.le_refl _), List.take_of_length_le (by rw [HM.out]; exact Nat.le_refl _)] at h
          exact h)
        go_wp2
        go_ret
        exact ⟨by rw [HE.out]; rfl, HBR.out⟩
  · have j1 : ((n : Int) == (m : Int)) = false := by simp; omega
    have j2 : ((n : Int) != (m : Int)) = true := by rw [bne, j1]; rfl
    have HE := Lib.hid (show R = false by
      rw [← HR.out, decide_eq_false_iff_not]
      intro q
      apply hnm
      rw [← HN.out, ← HM.out, q])
    clear hnm
    go_enter Tryz.func13, Tryz.ntmps13
    go_wp2
    go_ret
    exact ⟨by rw [HE.out]; rfl, HRF.out⟩

/-- what the law's calls want of a world -/
structure CallEnv (w : World) : Prop where
  err : ErrT w
  utf : Lib.Utf8Tabs 2 3 w
  names : NamesAt w
theorem CallEnv.below {w w' : World} (h : CallEnv w) (hb : Below w.heap.size w w') : CallEnv w' := ⟨h.err.below hb, tabs_keep h.utf hb, h.names.below hb⟩

/-- what both sides make of a pattern: arguments, a fault's number and place -/
structure BothQ (s : ByteArray) (hs : List (Wd × Nat)) (c a : Nat) : Prop where
  len : hs.length ≤ 1000000
  walk : ∀ (n : Int) (w : World), CallEnv w → Calls Tryz.prog 11 #[.string s, .int .i64 n] w fun e w' => ∃ u v, e = .returned (.tuple #[u, v, .int .i64 (c : Nat), .int .i64 (a : Nat)]) ∧ StrsAt w' u ((hs.take (max n 1).toNat).map (·.1)) ∧ IntsAt w' v ((hs.take (max n 1).toNat).map (·.2)) ∧ Below w.heap.size w w'
  names : ∀ (w : World), Calls Tryz.prog 12 #[.string s] w fun e w' => ∃ u v, e = .returned (.tuple #[u, v, .int .i64 (c : Nat), .int .i64 (a : Nat)]) ∧ StrsAt w' u (hs.map (·.1)) ∧ IntsAt w' v (hs.map (·.2)) ∧ Below w.heap.size w w'
  stop : ∀ (N : Nat) (w : World), 1 ≤ N → CallEnv w → Calls Tryz.prog 27 #[.string s, .int .i64 (N : Nat)] w fun e w' => e = .returned (.tuple #[.int .i64 ((if c = 0 ∧ N ≤ hs.length then N else hs.length : Nat) : Int), .int .i64 ((if c = 0 ∧ N ≤ hs.length then 15 else c : Nat) : Int)]) ∧ Below w.heap.size w w'

theorem both_any (s : ByteArray) (hs : s.size ≤ 1000000000) : ∃ l c a, BothQ s l c a := by
  obtain ⟨h0, h⟩ := read_law s
  rcases h with ⟨e, a, hE⟩ | ⟨f, hM⟩
  · refine ⟨[], e, a, by simp, fun n w hw => ?_, fun w => ?_, fun N w hN hw => ?_⟩
    · refine (walk_any s n w (by omega) hw.err hw.utf hw.names).mono ?_
      rintro e1 w' h
      unfold WalkQ at h
      rw [hE.p] at h
      obtain ⟨rfl, hb⟩ := h
      exact ⟨_, _, rfl, by simpa using strs_nil w', by simpa using ints_nil w', hb⟩
    · refine (names_any s w hs h0 (fun m hm => by rw [hE.d] at hm; cases hm) (by rw [hE.d]; exact Nat.zero_le _)).mono ?_
      rintro e1 w' ⟨vo, vp, rfl, h1, hb⟩
      rw [hE.d] at h1 ⊢
      exact ⟨vo, vp, rfl, StrsAt.of_own (ws := []) h1.o, IntsAt.of_own (ws := []) h1.p, hb⟩
    · refine (stop_any s N w (by omega) hw.err hw.utf hw.names).mono ?_
      rintro e1 w' h
      unfold StopQ at h
      rw [hE.p] at h
      obtain ⟨rfl, hb⟩ := h
      refine ⟨?_, hb⟩
      rw [if_neg (fun q => hE.ne q.1), if_neg (fun q => hE.ne q.1)]
      rfl
  · have hlen : (headsF f).length ≤ 1000000 := by
      rw [← hM.names]
      refine Nat.le_trans ?_ hM.len
      unfold namesD
      have : ∀ l : List Mk, (l.flatMap (nameD s)).length ≤ l.length := by
        intro l
        induction l with
        | nil => exact Nat.le_refl _
        | cons m t ih =>
          have := nameD_len s m
          rw [List.flatMap_cons, List.length_append, List.length_cons]
          omega
      exact this _
    refine ⟨headsF f, 0, 0, hlen, fun n w hw => ?_, fun w => ?_, fun N w hN hw => ?_⟩
    · refine (walk_any s n w (by omega) hw.err hw.utf hw.names).mono ?_
      rintro e1 w' h
      unfold WalkQ at h
      rw [hM.p] at h
      obtain ⟨⟨va, vc, ua, uc, rfl, h1, h2⟩, hb⟩ := h
      refine ⟨_, _, rfl, ?_, ?_, hb⟩
      · rw [← walk_law]
        refine StrsAt.of_own (base := w.heap.size) (e := 9) (n := (walkL n f).length) ?_
        rw [List.map_map]
        exact h1
      · rw [← walk_law]
        refine IntsAt.of_own (base := w.heap.size) (e := 3) (n := (walkL n f).length) ?_
        rw [List.map_map]
        exact h2
    · refine (names_any s w hs h0 (fun m hm => by rw [hM.d] at hm; exact hM.pl m hm) (by rw [hM.d]; exact hM.len)).mono ?_
      rintro e1 w' ⟨vo, vp, rfl, h1, hb⟩
      rw [hM.d] at h1 ⊢
      rw [hM.names] at h1
      refine ⟨vo, vp, rfl, ?_, ?_, hb⟩
      · refine StrsAt.of_own (base := w.heap.size) (e := 9) (n := (headsF f).length) ?_
        rw [List.map_map]
        exact h1.o
      · refine IntsAt.of_own (base := w.heap.size) (e := 3) (n := (headsF f).length) ?_
        rw [List.map_map]
        exact h1.p
    · refine (stop_any s N w (by omega) hw.err hw.utf hw.names).mono ?_
      rintro e1 w' h
      unfold StopQ at h
      rw [hM.p] at h
      obtain ⟨rfl, hb⟩ := h
      refine ⟨?_, hb⟩
      rw [stop_law]
      by_cases hc : N ≤ (headsF f).length
      · have e1 : (if (0 : Nat) = 0 ∧ N ≤ (headsF f).length then N else (headsF f).length) = N := if_pos ⟨rfl, hc⟩
        have e2 : (if (0 : Nat) = 0 ∧ N ≤ (headsF f).length then 15 else 0) = 15 := if_pos ⟨rfl, hc⟩
        rw [if_pos (by omega), e1, e2]
        rfl
      · have e1 : (if (0 : Nat) = 0 ∧ N ≤ (headsF f).length then N else (headsF f).length) = (headsF f).length := if_neg (fun q => hc q.2)
        have e2 : (if (0 : Nat) = 0 ∧ N ≤ (headsF f).length then 15 else 0) = 0 := if_neg (fun q => hc q.2)
        rw [if_neg (by omega), e1, e2]
        rfl

set_option maxHeartbeats 4000000 in
theorem stopped_any (s : ByteArray) (N : Nat) (hs : List (Wd × Nat)) (c a : Nat) (w : World) (hN : 1 ≤ N) (hB : BothQ s hs c a) (hw : CallEnv w) :
    Calls Tryz.prog 14 #[.string s, .int .i64 (N : Nat), .int .i64 (c : Nat)] w fun e w' => e = .returned (.bool true) ∧ Below w.heap.size w w' := by
  have HN := Lib.hid (hB.names w)
  have HS := Lib.hid (fun w' => hB.stop N w' hN)
  have HW := Lib.hid hw
  obtain ⟨n, hn⟩ : ∃ n, hs.length = n := ⟨_, rfl⟩
  have HNN := Lib.hid hn
  have hlen := hB.len
  rw [hn] at hlen
  obtain ⟨K, hK⟩ : ∃ K, (if c = 0 ∧ N ≤ hs.length then N else hs.length) = K := ⟨_, rfl⟩
  obtain ⟨G, hG⟩ : ∃ G, (if c = 0 ∧ N ≤ hs.length then 15 else c) = G := ⟨_, rfl⟩
  rw [hK, hG] at HS
  rw [hn] at hK hG
  have HK := Lib.hid hK
  have HG := Lib.hid hG
  clear hn hK hG hB hw
  go_enter Tryz.func14, Tryz.ntmps14
  go_wp2_with fail
  refine HN.out.mono ?_
  rintro e w1 ⟨u, v, rfl, hu, hv, hb1⟩
  obtain ⟨ua, uc, rfl, hu1, hu2, hu3, hu4⟩ := hu
  have hul : (hs.map (·.1)).length = n := by rw [List.length_map, HNN.out]
  rw [hul] at hu1
  rw [hul]
  have HB1 := Lib.hid hb1
  clear hu4 hv hb1 hul hu3
  go_wp2_with fail
  refine (HS.out w1 (HW.out.below HB1.out)).mono ?_
  rintro e w2 ⟨rfl, hb2⟩
  have HB2 := Lib.hid (HB1.out.trans (hb2.mono HB1.out.size))
  clear hb2
  by_cases hc : c = 0
  · have j1 : ((c : Int) == 0) = true := by simp [hc]
    by_cases hle : N ≤ n
    · have j2 : decide ((N : Int) ≤ (n : Int)) = true := by simp; omega
      have j2n : decide (N ≤ n) = true := by simp; omega
      have hKN : K = N := by rw [← HK.out, if_pos ⟨hc, hle⟩]
      have hG15 : G = 15 := by rw [← HG.out, if_pos ⟨hc, hle⟩]
      subst hKN hG15
      have j3 : ((K : Int) == (K : Int)) = true := by simp
      clear hc
      go_wp2
      go_ret
      exact ⟨rfl, HB2.out⟩
    · have j2 : decide ((N : Int) ≤ (n : Int)) = false := by simp; omega
      have j2n : decide (N ≤ n) = false := by simp; omega
      have hKN : K = n := by rw [← HK.out, if_neg (fun q => hle q.2)]
      have hG15 : G = c := by rw [← HG.out, if_neg (fun q => hle q.2)]
      subst hKN hG15
      have j3 : ((K : Int) == (K : Int)) = true := by simp
      have j4 : ((G : Int) == (G : Int)) = true := by simp
      clear hc
      go_wp2
      go_ret
      exact ⟨rfl, HB2.out⟩
  · have j1 : ((c : Int) == 0) = false := by simp; omega
    have hKN : K = n := by rw [← HK.out, if_neg (fun q => hc q.1)]
    have hG15 : G = c := by rw [← HG.out, if_neg (fun q => hc q.1)]
    subst hKN hG15
    have j3 : ((K : Int) == (K : Int)) = true := by simp
    have j4 : ((G : Int) == (G : Int)) = true := by simp
    clear hc
    go_wp2
    go_ret
    exact ⟨rfl, HB2.out⟩
end Go.Proofs.YtdelpialeajajaaGreatDoor

/- The law Walks: it returns true. -/
namespace Go.Proofs.YtdelpialeajajaaGreatDoor
open Go Go.RowKit
set_option maxRecDepth 10000

set_option maxHeartbeats 8000000 in
theorem law_each (s : ByteArray) (n : Int) (hs : List (Wd × Nat)) (c a : Nat) (w : World) (hB : BothQ s hs c a) (hw : CallEnv w) :
    Calls Tryz.prog 6 #[.string s, .int .i64 n] w fun e w' => e = .returned (.bool true) ∧ Below w.heap.size w w' := by
  obtain ⟨N, hN⟩ : ∃ N : Nat, (max n 1).toNat = N := ⟨_, rfl⟩
  have hN1 : 1 ≤ N := by omega
  have hlen := hB.len
  have HWK := Lib.hid (hB.walk n w hw)
  rw [hN] at HWK
  have HNM := Lib.hid hB.names
  have HST := Lib.hid (fun w' (h : CallEnv w') => stopped_any s N hs c a w' hN1 hB h)
  have HW := Lib.hid hw
  obtain ⟨ts, hts⟩ : ∃ ts, hs.map (·.1) = ts := ⟨_, rfl⟩
  obtain ⟨ps, hps⟩ : ∃ ps, hs.map (·.2) = ps := ⟨_, rfl⟩
  have htl : ts.length = hs.length := by rw [← hts, List.length_map]
  have hpl : ps.length = hs.length := by rw [← hps, List.length_map]
  rw [List.map_take, List.map_take, hts, hps] at HWK
  rw [hts, hps] at HNM
  obtain ⟨l, hl⟩ : ∃ l, hs.length = l := ⟨_, rfl⟩
  rw [hl] at htl hpl hlen
  have HTL := Lib.hid htl
  have HPL := Lib.hid hpl
  have HNN := Lib.hid hN
  obtain ⟨M, hM⟩ : ∃ M, min N l = M := ⟨_, rfl⟩
  have hMl : M ≤ l := by omega
  have hMN : M ≤ N := by omega
  have HMM := Lib.hid hM
  have hT : ts.take N = ts.take M := by rw [← hM, ← htl]; simp
  have hP : ps.take N = ps.take M := by rw [← hM, ← hpl]; simp
  rw [hT, hP] at HWK
  have hTM : (ts.take M).length = M := by rw [List.length_take]; omega
  have hPM : (ps.take M).length = M := by rw [List.length_take]; omega
  have HTM := Lib.hid hTM
  have HPM := Lib.hid hPM
  clear hts hps hl hB hw htl hpl hM hT hP hTM hPM
  go_enter Tryz.func6, Tryz.ntmps6
  go_wp2_with fail
  refine HWK.out.mono ?_
  rintro e w1 ⟨u, v, rfl, hu, hv, hb1⟩
  have HU1 := Lib.hid hu
  have HV1 := Lib.hid hv
  obtain ⟨ua, uc, rfl, -, -, -, -⟩ := hu
  obtain ⟨va, vc, rfl, -, -, -, -⟩ := hv
  rw [HTM.out] at HU1 ⊢
  rw [HPM.out] at HV1 ⊢
  have HB1 := Lib.hid hb1
  clear hb1
  go_wp2_with fail
  refine (HNM.out w1).mono ?_
  rintro e w2 ⟨u, v, rfl, hu, hv, hb2⟩
  have HU2 := Lib.hid hu
  have HV2 := Lib.hid hv
  obtain ⟨xa, xc, rfl, hx1, hx2, hx3, -⟩ := hu
  obtain ⟨ya, yc, rfl, hy1, hy2, hy3, -⟩ := hv
  rw [HTL.out] at HU2 hx1 ⊢
  rw [HPL.out] at HV2 hy1 ⊢
  have HB2 := Lib.hid (HB1.out.trans (hb2.mono HB1.out.size))
  have HU1 := Lib.hid (HU1.out.below hb2)
  have HV1 := Lib.hid (HV1.out.below hb2)
  unfold maxLen at hx2 hy2
  clear hb2 hx3 hy3
  go_upto_if 31 with fail
  go_cut [1] (fun nv wc => nv = .int .i64 (N : Nat) ∧ wc = w2)
  case first =>
    by_cases h1 : n < 1
    · have j1 : decide (n < 1) = true := by simp; omega
      have hN0 : N = 1 := by have := HNN.out; omega
      subst hN0
      go_wp2_with fail
      go_meet
      case rel => exact ⟨rfl, rfl⟩
    · have j1 : decide (n < 1) = false := by simp; omega
      have hN0 : n = (N : Nat) := by have := HNN.out; omega
      subst hN0
      go_wp2_with fail
      go_meet
      case rel => exact ⟨rfl, rfl⟩
  case rest =>
    obtain ⟨rfl, hwc⟩ := hcut
    have hwc := hwc.symm
    subst hwc
    go_upto_if 35 with fail
    go_cut [9, 10] (fun lv pv wc => lv = .slice xa (M : Nat) xc ∧ pv = .slice ya (M : Nat) yc ∧ wc = w2)
    case first =>
      by_cases h1 : N < l
      · have j1 : decide ((N : Int) < (l : Int)) = true := by simp; omega
        have j1i : (N : Int) < (l : Int) := by omega
        have hM0 : M = N := by have := HMM.out; omega
        subst hM0
        have k1 : (M : Int) ≤ (xc : Int) := by omega
        have k2 : (M : Int) ≤ (yc : Int) := by omega
        have k3 : M ≤ xc := by omega
        have k4 : M ≤ yc := by omega
        go_wp2_with fail
        go_meet
        case rel => exact ⟨rfl, rfl, rfl⟩
      · have j1 : decide ((N : Int) < (l : Int)) = false := by simp; omega
        have hM0 : M = l := by have := HMM.out; omega
        subst hM0
        go_wp2_with fail
        go_meet
        case rel => exact ⟨rfl, rfl, rfl⟩
    case rest =>
      obtain ⟨rfl, rfl, hwc⟩ := hcut
      have hwc := hwc.symm
      subst hwc
      have HX := Lib.hid (HU2.out.cut hMl)
      have HY := Lib.hid (HV2.out.cut hMl)
      have HSM := Lib.hid (same_any _ _ (ts.take M) (ts.take M) w2 HU1.out HX.out (by rw [HTM.out]; omega) (by rw [HTM.out]; omega))
      rw [decide_eq_true (rfl : ts.take M = ts.take M)] at HSM
      obtain ⟨q, hq⟩ : ∃ q, ps.take M = q := ⟨_, rfl⟩
      rw [hq] at HV1 HY HPM
      have HV1' := HV1.out
      have HY' := HY.out
      obtain ⟨a1, c1, e1, -, -, -, f1⟩ := HV1'
      obtain ⟨a2, c2, e2, -, -, -, f2⟩ := HY'
      obtain ⟨rfl, -, rfl⟩ := Value.slice.inj e1
      obtain ⟨rfl, -, rfl⟩ := Value.slice.inj e2
      have HF1 := Lib.hid f1
      have HF2 := Lib.hid f2
      clear f1 f2 hq e1 e2 hwc
      go_wp2_with fail
      refine HSM.out.mono ?_
      rintro e w3 ⟨rfl, hb3⟩
      have HB3 := Lib.hid (HB2.out.trans (hb3.mono HB2.out.size))
      have HB3c := Lib.hid hb3
      clear hb3
      go_wp2_with fail
      go_loopw [13, 14] (fun ov iv wr => ∃ k : Nat, ov = .bool true ∧ iv = .int .i64 (k : Nat) ∧ k ≤ M ∧ Below w2.heap.size w2 wr ∧ Below w.heap.size w wr) (fun _ iv _ => M - (intOf iv).toNat)
      case atStart => exact ⟨0, rfl, rfl, Nat.zero_le _, HB3c.out, HB3.out⟩
      case round =>
        obtain ⟨k, rfl, rfl, hk, hbc, hbr⟩ := hrel
        have HBC := Lib.hid hbc
        have HBR := Lib.hid hbr
        clear hbc hbr
        by_cases hlt : k < M
        · have hltI : (k : Int) < (M : Int) := by omega
          have k0 : decide ((k : Int) < (M : Int)) = true := by simp; omega
          have k0n : decide (k < M) = true := by simp; omega
          have k5 : k < l := by omega
          have hkq : k < q.length := by rw [HPM.out]; exact hlt
          obtain ⟨yq, rfl, hca⟩ := HF1.out k hkq
          obtain ⟨yb, rfl, hcb⟩ := HF2.out k hkq
          have cA := (HBC.out.cell (World.block_lt_of_cell? _ _ hca)).trans hca
          have cB := (HBC.out.cell (World.block_lt_of_cell? _ _ hcb)).trans hcb
          obtain ⟨x, hxe⟩ : ∃ x, q[k] = x := ⟨_, rfl⟩
          rw [hxe] at cA cB
          have hS0 : wr.drew.cell? (yq.add k) = some (.int .i64 (x : Nat)) ∧ wr.drew.cell? (yb.add k) = some (.int .i64 (x : Nat)) := ⟨cA, cB⟩
          have HBD := Lib.hid (HBR.out.trans ((Below.refl _ _).drew (w := wr)))
          have HBE := Lib.hid (HBC.out.trans ((Below.refl _ _).drew (w := wr)))
          have g1 : ((x : Int) == (x : Int)) = true := by simp
          clear hca hcb hxe cA cB
          go_wp2_with fail
          refine wp_region_takes (fun W' : World => W'.cell? (yq.add k) = some (.int .i64 (x : Nat)) ∧ W'.cell? (yb.add k) = some (.int .i64 (x : Nat))) [0, 1, 2, 3, 4, 5, 6, 7, 8, 9] 0 (by intro _ _ d _ _ h; cases d <;> exact h) (by kernel_rfl) (by kernel_rfl) hS0 ?_
          (iterate 10 (first | (refine takes_yes (v := ?_) rfl (by rfl) ?_ ?_; rotate_left; (focus ((intro w' hS'; (try dsimp only at hS'); go_simp; try (with_reducible rfl)); done)); (try simp only [Act.put, List.setIfInBounds_toArray, List.set_cons_zero, List.set_cons_succ])) | (refine takes_no rfl (by rfl) ?_; (try simp only [Act.put, List.setIfInBounds_toArray, List.set_cons_zero, List.set_cons_succ]))))
          refine takes_nil ?_
          refine wpAnyH_done (by kernel_rfl) ?_ _
          clear hS0
          go_wp2
          go_roundw
          case rel => exact ⟨k + 1, by simp, by go_num, by omega, HBE.out, HBD.out⟩
          case measure => simp [intOf]; omega
        · have hkn : k = M := by omega
          have k0 : decide ((k : Int) < (M : Int)) = false := by simp; omega
          have k0n : decide (k < M) = false := by simp; omega
          have j5 : ((c : Int) == (c : Int)) = true := by simp
          have j6 : ((a : Int) == (a : Int)) = true := by simp
          have j5n : ((c : Int) != (c : Int)) = false := by simp
          have j6n : ((a : Int) != (a : Int)) = false := by simp
          go_wp2_with fail
          refine (HST.out wr (HW.out.below HBR.out)).mono ?_
          rintro e w5 ⟨rfl, hb5⟩
          have HB5 := Lib.hid (HBR.out.trans (hb5.mono HBR.out.size))
          clear hb5
          go_wp2
          go_ret
          exact ⟨rfl, HB5.out⟩

set_option maxHeartbeats 2000000 in
theorem walks_law (s : ByteArray) (n : Int) (w : World) (hs : s.size ≤ 9223372036854775807) (hw : CallEnv w) :
    Calls Tryz.prog 3 #[.string s, .int .i64 n] w fun e w' => e = .returned (.bool true) ∧ Below w.heap.size w w' := by
  have HW := Lib.hid hw
  clear hw
  by_cases h1 : s.size ≤ 65536
  · have h1' : decide ((65536 : Int) < (s.size : Int)) = false := by simp; omega
    obtain ⟨l, c, a, hB⟩ := both_any s (by omega)
    have HE := Lib.hid (law_each s n l c a w hB HW.out)
    clear hB
    go_enter Tryz.func3, Tryz.ntmps3
    go_wp2_with fail
    refine HE.out.mono ?_
    rintro e w1 ⟨rfl, hb1⟩
    go_wp2
    go_ret
    exact ⟨rfl, hb1⟩
  · have h1' : decide ((65536 : Int) < (s.size : Int)) = true := by simp; omega
    go_enter Tryz.func3, Tryz.ntmps3
    go_wp2
    go_ret
    exact ⟨rfl, Below.refl _ _⟩
end Go.Proofs.YtdelpialeajajaaGreatDoor
