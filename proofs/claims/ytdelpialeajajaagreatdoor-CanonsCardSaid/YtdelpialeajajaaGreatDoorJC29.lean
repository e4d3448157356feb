import Derived.Test.YtdelpialeajajaaGreatDoorJC28
import Derived.Test.YtdelpialeajajaaGreatDoorShelfC

/- syntax.writer: a text in the one form. -/
namespace Go.Proofs.YtdelpialeajajaaGreatDoor
open Go Go.RowKit
set_option maxRecDepth 10000

set_option maxHeartbeats 2000000 in
theorem text1_any (x q : Nat) (num : Bool) (w : World) (hq : w.cell? ⟨q, 0, none⟩ = some (.bool num)) :
    Calls Tryz.prog 115 #[.int .i32 (x : Nat), .pointer (some ⟨q, 0, none⟩)] w fun e w' => e = .returned (.bool (nqR num x)) ∧ w = w' := by
  obtain ⟨sp, hsp⟩ : ∃ b, specialL (x : Int) num = b := ⟨_, rfl⟩
  have HS := Lib.hid (syn_special (x : Int) num w)
  rw [hsp] at HS
  by_cases hx : x = 39
  · have j1 : ((x : Int) == 39) = true := by simp [hx]
    have j2 : ((x : Int) != 39) = false := by rw [bne, j1]; rfl
    have HF := Lib.hid (show nqR num x = false by unfold nqR; rw [hx]; rfl)
    clear hx hsp
    go_enter Tryz.func115, Tryz.ntmps115
    go_wp2
    go_ret
    exact ⟨by rw [HF.out]; rfl, rfl⟩
  · have j1 : ((x : Int) == 39) = false := by simp; omega
    have j2 : ((x : Int) != 39) = true := by rw [bne, j1]; rfl
    have HF := Lib.hid (show nqR num x = !sp by unfold nqR; rw [hsp, decide_eq_true hx]; rfl)
    clear hx hsp
    go_enter Tryz.func115, Tryz.ntmps115
    go_wp2_with fail
    refine HS.out.mono ?_
    rintro e w' ⟨rfl, rfl⟩
    go_wp2
    go_ret
    exact ⟨by rw [HF.out]; rfl, rfl⟩

set_option maxHeartbeats 2000000 in
theorem text2_any (x q : Nat) (num : Bool) (w : World) (hq : w.cell? ⟨q, 0, none⟩ = some (.bool num)) :
    Calls Tryz.prog 119 #[.int .i32 (x : Nat), .pointer (some ⟨q, 0, none⟩)] w fun e w' => e = .returned (.bool (yqR num x)) ∧ w = w' := by
  obtain ⟨sp, hsp⟩ : ∃ b, specialL (x : Int) num = b := ⟨_, rfl⟩
  have HS := Lib.hid (syn_special (x : Int) num w)
  rw [hsp] at HS
  by_cases hx : x = 39
  · have j1 : ((x : Int) == 39) = true := by simp [hx]
    have j2 : ((x : Int) != 39) = false := by rw [bne, j1]; rfl
    have HF := Lib.hid (show yqR num x = true by unfold yqR; rw [hx]; rfl)
    clear hx hsp
    go_enter Tryz.func119, Tryz.ntmps119
    go_wp2
    go_ret
    exact ⟨by rw [HF.out]; rfl, rfl⟩
  · have j1 : ((x : Int) == 39) = false := by simp; omega
    have j2 : ((x : Int) != 39) = true := by rw [bne, j1]; rfl
    have HF := Lib.hid (show yqR num x = sp by unfold yqR; rw [hsp, decide_eq_false hx]; rfl)
    clear hx hsp
    go_enter Tryz.func119, Tryz.ntmps119
    go_wp2_with fail
    refine HS.out.mono ?_
    rintro e w' ⟨rfl, rfl⟩
    go_wp2
    go_ret
    exact ⟨by rw [HF.out]; rfl, rfl⟩

/-- one round of the writer -/
theorem wrT_round {num : Bool} {u : Wd} (hu : u ≠ []) : wrT num u = runQ (u.takeWhile (qB num)) ++ ((u.drop (u.takeWhile (qB num)).length).takeWhile (fun c => !qB num c) ++ wrT num ((u.drop (u.takeWhile (qB num)).length).drop ((u.drop (u.takeWhile (qB num)).length).takeWhile (fun c => !qB num c)).length)) ∧
    ((u.drop (u.takeWhile (qB num)).length).drop ((u.drop (u.takeWhile (qB num)).length).takeWhile (fun c => !qB num c)).length).length < u.length := by
  have h1 : wrT num u = prG num (u.length + 1) u := (prG_wrT num _ u (Nat.le_succ _)).symm
  constructor
  · rw [h1, prG, if_neg hu, prG_wrT num u.length _ (by simp)]
  · have hp := List.length_pos_iff.2 hu
    simp only [List.length_drop]
    by_cases ha : u.takeWhile (qB num) = []
    · rw [ha]
      cases u with
      | nil => exact absurd rfl hu
      | cons c t =>
        have hq : ¬ qB num c = true := fun q => by rw [List.takeWhile_cons_of_pos q] at ha; cases ha
        simp only [List.length_nil, List.drop_zero]
        rw [List.takeWhile_cons_of_pos (by simpa using hq), List.length_cons]
        simp only [List.length_cons]
        omega
    · have := List.length_pos_iff.2 ha
      omega

def szS (v : Value) : Nat := match v with | .string s => s.size | _ => 0
/-- the library's greatest length of a needle, wherever it is laid -/
def MaxAt (B : Nat) (w : World) : Prop := 9 < B ∧ ∃ m, w.cell? ⟨9, 0, none⟩ = some (.int .i64 m)
theorem MaxAt.keep {B b : Nat} {w w' : World} (h : MaxAt B w) (k : WF B b w w') : MaxAt B w' := by
  obtain ⟨h1, m, h2⟩ := h
  exact ⟨h1, m, (k.below.cell (p := ⟨9, 0, none⟩) h1).trans h2⟩
theorem WF.drew {B b : Nat} {w w' : World} (h : WF B b w w') : WF B b w w'.drew := ⟨h.below.drew, h.kept.drew⟩
theorem WrAt.drew {B b : Nat} {l : Wd} {w : World} (h : WrAt B b l w) : WrAt B b l w.drew := h
theorem extract_mk (u : Wd) (n : Nat) : (⟨u.toArray⟩ : ByteArray).extract 0 n = ⟨(u.take n).toArray⟩ := by
  rw [extract_take, toList_mk]
theorem extract_mk2 (u : Wd) (n : Nat) (h : n ≤ u.length) : (⟨u.toArray⟩ : ByteArray).extract n u.length = ⟨(u.drop n).toArray⟩ := by
  have := extract_drop ⟨u.toArray⟩ n
  rw [size_mk, toList_mk] at this
  exact this

structure TxI (B b q : Nat) (num : Bool) (w : World) (F u acc : Wd) (wr : World) : Prop where
  at_ : WrAt B b acc wr
  wf : WF B b w wr
  box : wr.cell? ⟨q, 0, none⟩ = some (.bool num)
  eq : acc ++ wrT num u = F

set_option maxHeartbeats 8000000 in
theorem wr_text (B b : Nat) (l t : Wd) (num : Bool) (w : World) (h : WrAt B b l w) (hmx : MaxAt B w) (hlen : l.length + (wrT num t).length ≤ 100000000) (ht : t.length ≤ 100000000) :
    Calls Tryz.prog 88 #[.pointer (some ⟨b, 0, none⟩), strv t, .bool num] w fun e w' => (∃ v, e = .returned v) ∧ WrAt B b (l ++ wrT num t) w' ∧ WF B b w w' := by
  have hmf : ∀ (fn : Fn) (first cap : Array Value) (w : World), (Instr.makeFunc fn first cap).run Tryz.prog w = .ok (.func fn first cap) w := fun _ _ _ _ => rfl
  have hBw : B ≤ w.heap.size := Nat.le_trans h.lt.2 (Nat.le_of_lt h.lt.1)
  have hbs := h.lt.1
  have HH := Lib.hid h
  have HMX := Lib.hid hmx
  obtain ⟨F, hF⟩ : ∃ F, l ++ wrT num t = F := ⟨_, rfl⟩
  have hFl : F.length ≤ 100000000 := by rw [← hF, List.length_append]; exact hlen
  rw [hF]
  have HFF := Lib.hid hF
  clear h hmx hlen hF
  go_enter Tryz.func88, Tryz.ntmps88
  go_wp2_with fail
  refine wp_gen ?_
  intro W0 hW0
  have hb0 : Below w.heap.size w W0 := by rw [hW0]; exact (Below.refl _ _).alloc (Nat.le_refl _) _
  have hq0 : W0.cell? ⟨w.heap.size, 0, none⟩ = some (.bool num) := by rw [hW0]; exact cell_made w #[.bool num] 4 (0, 0) 0
  have hbx0 : W0.heap[w.heap.size]? = some (.cells #[.bool num] 4 (0, 0)) := by rw [hW0]; exact heap_alloc_new w _
  have HWR0 := Lib.hid (HH.out.later hb0)
  have HWF0 := Lib.hid (WF.later (b := b) hBw hb0)
  obtain ⟨q, hq⟩ : ∃ q, w.heap.size = q := ⟨_, rfl⟩
  rw [hq] at hq0 hbx0
  try rw [hq]
  have hqb : q ≠ b := by omega
  have HBX := Lib.hid hbx0
  have HQB := Lib.hid hqb
  have HTL := Lib.hid ht
  have HFL := Lib.hid hFl
  clear hW0 hb0 hbx0 hq hbs hqb hBw ht hFl
  go_loopw [1] (fun sv wr => ∃ u acc, sv = strv u ∧ u.length ≤ t.length ∧ TxI B b q num w F u acc wr ∧ WF B b W0 wr) (fun sv _ => szS sv)
  case atStart => exact ⟨t, l, rfl, Nat.le_refl _, ⟨HWR0.out, HWF0.out, hq0, HFF.out⟩, WF.refl _ _ _⟩
  case round =>
    obtain ⟨u, acc, rfl, hul, hti, hwf⟩ := hrel
    have hbox : wr.heap[q]? = some (.cells #[.bool num] 4 (0, 0)) := hwf.kept q _ HBX.out (by simpa using HQB.out) (fun c fz e => by cases e)
    have HBOX := Lib.hid hbox
    have HTI := Lib.hid hti
    have HWF := Lib.hid hwf
    have hul2 : u.length ≤ 100000000 := Nat.le_trans hul HTL.out
    have HUL := Lib.hid hul
    have usz : (⟨u.toArray⟩ : ByteArray).size = u.length := size_mk _
    obtain ⟨ul, hulN⟩ : ∃ n, u.length = n := ⟨_, rfl⟩
    have HULN := Lib.hid hulN
    rw [hulN] at usz hul2
    clear hbox hti hwf hul hulN
    by_cases hu : u = []
    · have HE := Lib.hid (show acc = F by have := HTI.out.eq; rw [hu, wrT_nil, List.append_nil] at this; exact this)
      have u0 : ul = 0 := by rw [← HULN.out, hu]; rfl
      subst u0
      subst hu
      clear usz
      go_wp2
      go_end0
      exact ⟨⟨_, rfl⟩, by rw [← HE.out]; exact HTI.out.at_, HTI.out.wf⟩
    · have hup : 0 < ul := by rw [← HULN.out]; exact List.length_pos_iff.2 hu
      have hupI : (0 : Int) < (ul : Int) := by omega
      obtain ⟨hr1, hr2⟩ := wrT_round (num := num) hu
      obtain ⟨a, ha⟩ : ∃ a, u.takeWhile (qB num) = a := ⟨_, rfl⟩
      obtain ⟨r, hr⟩ : ∃ r, u.drop a.length = r := ⟨_, rfl⟩
      obtain ⟨z, hz⟩ : ∃ z, r.takeWhile (fun c => !qB num c) = z := ⟨_, rfl⟩
      obtain ⟨v, hv⟩ : ∃ v, r.drop z.length = v := ⟨_, rfl⟩
      rw [ha, hr, hz, hv] at hr1
      rw [ha, hr, hz, hv] at hr2
      have hal : a.length ≤ ul := by rw [← ha, ← HULN.out]; exact (List.takeWhile_prefix _).length_le
      have hta : u.take a.length = a := by
        rw [← ha]
        exact (List.prefix_iff_eq_take.1 (List.takeWhile_prefix _)).symm
      have hrl : r.length = ul - a.length := by rw [← hr, List.length_drop, HULN.out]
      have hzl : z.length ≤ r.length := by rw [← hz]; exact (List.takeWhile_prefix _).length_le
      have htz : r.take z.length = z := by
        rw [← hz]
        exact (List.prefix_iff_eq_take.1 (List.takeWhile_prefix _)).symm
      have hFe : acc ++ (runQ a ++ (z ++ wrT num v)) = F := by rw [← hr1]; exact HTI.out.eq
      have hFlen : acc.length + (runQ a).length + z.length ≤ 100000000 := by
        have h1 := congrArg List.length hFe
        simp only [List.length_append] at h1
        have := HFL.out
        omega
      have HFE := Lib.hid hFe
      have HFLEN := Lib.hid hFlen
      have HR2 := Lib.hid hr2
      have HA := Lib.hid ha
      have HR := Lib.hid hr
      have HZ := Lib.hid hz
      have HV := Lib.hid hv
      have HTA := Lib.hid hta
      have HTZ := Lib.hid htz
      have cq : wr.cell? ⟨q, 0, none⟩ = some (.bool num) := HTI.out.box
      have HP1 : PredGrows Tryz.prog 115 #[.pointer (some ⟨q, 0, none⟩)] (nqR num) wr := fun W' x _ hb => (text1_any x q num W' ((hb.cell (p := ⟨q, 0, none⟩) (World.block_lt_of_cell? _ _ cq)).trans cq)).mono fun e w' h => ⟨h.1, h.2 ▸ Below.refl _ _⟩
      have HI1 := Lib.hid (Tryz.strings_IndexFunc_grows 115 #[.pointer (some ⟨q, 0, none⟩)] (fun args w => enters_of Tryz.func115 (by kernel_rfl) rfl args w) (nqR num) ⟨u.toArray⟩ wr HP1)
      rw [idx_no_all, toList_mk, size_mk, HA.out, HULN.out] at HI1
      clear hr1 hr2 ha hr hz hv hta htz hFe hFlen HP1 hu
      go_wp2_with fail
      refine HI1.out.mono ?_
      rintro e w1 ⟨rfl, hb1⟩
      have HB1 := Lib.hid hb1
      have HAT1 := Lib.hid (HTI.out.at_.later hb1)
      clear hb1
      go_upto_if 15 with fail
      obtain ⟨al, hall⟩ : ∃ n, a.length = n := ⟨_, rfl⟩
      rw [hall] at hal hrl
      have HAL := Lib.hid hall
      rw [hall]
      have HTA := Lib.hid (hall ▸ HTA.out)
      have HR := Lib.hid (hall ▸ HR.out)
      clear hall
      go_cut [6] (fun nv wc => nv = .int .i64 (al : Nat) ∧ wc = w1)
      case first =>
        by_cases hlt : al < ul
        · rw [if_pos hlt]
          have j1 : decide ((al : Int) < 0) = false := by simp <;> omega
          go_wp2_with fail
          go_meet
          case rel => exact ⟨rfl, rfl⟩
        · rw [if_neg hlt]
          have hae : al = ul := by omega
          subst hae
          go_wp2_with fail
          go_meet
          case rel => exact ⟨rfl, rfl⟩
      case rest =>
        obtain ⟨rfl, hwc⟩ := hcut
        have hwc := hwc.symm
        subst hwc
        have halI : (al : Int) ≤ (ul : Int) := by omega
        have hex : (⟨u.toArray⟩ : ByteArray).extract 0 al = ⟨a.toArray⟩ := by rw [extract_mk, HTA.out]
        have hex2 : (⟨u.toArray⟩ : ByteArray).extract al ul = ⟨r.toArray⟩ := by
          have := extract_mk2 u al (by rw [HULN.out]; exact hal)
          rw [HULN.out] at this
          rw [this, HR.out]
        have HEX := Lib.hid hex
        have HEX2 := Lib.hid hex2
        have HWF1 := Lib.hid (HTI.out.wf.trans (WF.later (Nat.le_trans HTI.out.at_.lt.2 (Nat.le_of_lt HTI.out.at_.lt.1)) HB1.out))
        have HWB1 := Lib.hid (HWF.out.trans (WF.later (b := b) (Nat.le_trans HTI.out.at_.lt.2 (Nat.le_of_lt HTI.out.at_.lt.1)) HB1.out))
        obtain ⟨-, mm, hmm⟩ := HMX.out.keep HWF1.out
        have haz : (⟨a.toArray⟩ : ByteArray).size = al := by rw [size_mk, HAL.out]
        have HRP := Lib.hid (Tryz.strings_ReplaceAll ⟨a.toArray⟩ ⟨#[39]⟩ ⟨#[39, 39]⟩ mm w1 (by rw [haz]; omega) hmm (by decide) (by
          show (⟨a.toArray⟩ : ByteArray).size + Lib.count (⟨a.toArray⟩ : ByteArray).data.toList [39] * 2 ≤ _
          rw [haz, toList_mk, count_39]
          have := List.count_le_length (a := (39 : UInt8)) (l := a)
          have := HAL.out
          omega))
        have HRP := Lib.hid (show Calls Tryz.prog 117 #[.string ((⟨u.toArray⟩ : ByteArray).extract 0 al), .string ⟨#[39]⟩, .string ⟨#[39, 39]⟩] w1 fun e w' => e = .returned (strv (dblL a)) ∧ Below w1.heap.size w1 w' by
          rw [HEX.out]
          refine HRP.out.mono ?_
          rintro e w' ⟨rfl, h⟩
          rw [toList_mk]
          exact ⟨by rw [show (⟨#[39]⟩ : ByteArray).data.toList = [39] from rfl, show (⟨#[39, 39]⟩ : ByteArray).data.toList = [39, 39] from rfl, replace_all], h⟩)
        obtain ⟨tr, htr⟩ : ∃ x, Lib.trimB a 39 = x := ⟨_, rfl⟩
        have HTR := Lib.hid htr
        have HTM := Lib.hid (fun W => (show Calls Tryz.prog 118 #[.string ((⟨u.toArray⟩ : ByteArray).extract 0 al), .string ⟨#[39]⟩] W fun e w' => e = .returned (strv tr) ∧ (w' = W ∨ w' = W.drew) by
          rw [HEX.out]
          refine (Tryz.strings_Trim_one ⟨a.toArray⟩ 39 (by decide) W (by rw [haz]; omega)).mono ?_
          rintro e w' ⟨rfl, h⟩
          rw [toList_mk, HTR.out]
          exact ⟨rfl, h⟩))
        clear hex hex2 hmm haz htr
        go_wp2_with fail
        refine HRP.out.mono ?_
        rintro e w2 ⟨rfl, hb2⟩
        have HAT2 := Lib.hid (HAT1.out.later hb2)
        have HWF2 := Lib.hid (HWF1.out.trans (WF.later (Nat.le_trans HAT1.out.lt.2 (Nat.le_of_lt HAT1.out.lt.1)) hb2))
        have HWB2 := Lib.hid (HWB1.out.trans (WF.later (b := b) (Nat.le_trans HAT1.out.lt.2 (Nat.le_of_lt HAT1.out.lt.1)) hb2))
        clear hb2
        go_wp2_with fail
        refine (HTM.out w2).mono ?_
        rintro e w3 ⟨rfl, hd⟩
        obtain ⟨w3', h33⟩ : ∃ X, w3 = X := ⟨_, rfl⟩
        have HAT3 := Lib.hid (show WrAt B b acc w3 by rcases hd with rfl | rfl <;> exact HAT2.out)
        have HWF3 := Lib.hid (show WF B b w w3 by rcases hd with rfl | rfl <;> first | exact HWF2.out | exact HWF2.out.drew)
        have HWB3 := Lib.hid (show WF B b W0 w3 by rcases hd with rfl | rfl <;> first | exact HWB2.out | exact HWB2.out.drew)
        clear hd h33
        go_upto_if 26 with fail
        go_cut [7] (fun rv wc => rv = strv (runQ a) ∧ wc = w3)
        case first =>
          by_cases h0 : tr = []
          · have HQ := Lib.hid (show dblL a = runQ a by
              unfold runQ
              rw [if_neg (fun e => (trim_nil a).2 e (HTR.out.trans h0))])
            have g0 : List.isEmpty tr = true := by rw [h0]; rfl
            have g1 : (!List.isEmpty tr) = false := by rw [g0]; rfl
            rw [g1]
            clear h0
            go_wp2_with fail
            go_meet
            case rel => exact ⟨by rw [← HQ.out], rfl⟩
          · have HQ := Lib.hid (show (39 :: (dblL a ++ [39]) : Wd) = runQ a by
              unfold runQ
              rw [if_pos ((trim_nil a).1 (fun e => h0 (HTR.out.symm.trans e)))])
            have g0 : List.isEmpty tr = false := by
              cases htt : tr with
              | nil => exact absurd htt h0
              | cons x y => rfl
            have g1 : (!List.isEmpty tr) = true := by rw [g0]; rfl
            rw [g1]
            obtain ⟨da, hda⟩ : ∃ x, dblL a = x := ⟨_, rfl⟩
            have hdl : da.length ≤ 200000000 := by
              have h1 := dbl_len a
              have h2 := HAL.out
              rw [hda] at h1
              omega
            have hd1 : ¬ 9223372036854775807 < 1 + da.length := by omega
            have hd2 : ¬ 9223372036854775807 < 1 + da.length + 1 := by omega
            rw [hda] at HQ ⊢
            clear h0 hda
            go_wp2_with fail
            go_meet
            case rel => exact ⟨by rw [← HQ.out]; rfl, rfl⟩
        case rest =>
          obtain ⟨rfl, hwc⟩ := hcut
          have hwc := hwc.symm
          subst hwc
          obtain ⟨rq, hrq⟩ : ∃ x, runQ a = x := ⟨_, rfl⟩
          have HFLEN := HFLEN.out
          have HFE := Lib.hid (hrq ▸ HFE.out)
          rw [hrq] at HFLEN ⊢
          have HFLEN := Lib.hid HFLEN
          clear hrq
          go_wp2_with fail
          refine calls_gen ?_
          intro W4 hW4
          have hb4 : Below w3.heap.size w3 W4 := by rw [hW4]; exact (Below.refl _ _).alloc (Nat.le_refl _) _
          have HROW4 := Lib.hid (show TxtRow W4 w3.heap.size [rq] from ⟨9, (0, 0), by decide, by decide, by rw [hW4]; exact heap_alloc_new _ _⟩)
          have hat4 := HAT3.out.later hb4
          have hsz4 := Nat.le_trans HAT3.out.lt.2 (Nat.le_of_lt HAT3.out.lt.1)
          have HWF3x4 := Lib.hid (HWF3.out.trans (WF.later (b := b) hsz4 hb4))
          have HWB3x4 := Lib.hid (HWB3.out.trans (WF.later (b := b) hsz4 hb4))
          clear hW4 hb4
          refine (wr_all B b w3.heap.size (acc) [rq] W4 hat4 HROW4.out (by have := HFLEN.out; simp; omega) (by simp)).mono ?_
          rintro e w4 ⟨⟨rv4, rfl⟩, hw4, hf4⟩
          have HAT4 := Lib.hid (show WrAt B b (acc ++ rq) w4 by simpa using hw4)
          have HWF34 := Lib.hid (HWF3x4.out.trans hf4)
          have HWB34 := Lib.hid (HWB3x4.out.trans hf4)
          clear hw4 hf4 hat4 hsz4 HWF3x4 HWB3x4
          have hbox4 : w4.heap[q]? = some (.cells #[.bool num] 4 (0, 0)) := HWB34.out.kept q _ HBX.out (by simpa using HQB.out) (fun c fz e => by cases e)
          have cq4 : w4.cell? ⟨q, 0, none⟩ = some (.bool num) := by rw [Lib.cell_of_heap hbox4]; rfl
          have HP2 : PredGrows Tryz.prog 119 #[.pointer (some ⟨q, 0, none⟩)] (yqR num) w4 := fun W' x _ hb => (text2_any x q num W' ((hb.cell (p := ⟨q, 0, none⟩) (World.block_lt_of_cell? _ _ cq4)).trans cq4)).mono fun e w' h => ⟨h.1, h.2 ▸ Below.refl _ _⟩
          have HI2 := Lib.hid (Tryz.strings_IndexFunc_grows 119 #[.pointer (some ⟨q, 0, none⟩)] (fun args w => enters_of Tryz.func119 (by kernel_rfl) rfl args w) (yqR num) ⟨r.toArray⟩ w4 HP2)
          obtain ⟨rl, hrll⟩ : ∃ n, r.length = n := ⟨_, rfl⟩
          obtain ⟨zl, hzll⟩ : ∃ n, z.length = n := ⟨_, rfl⟩
          rw [idx_yes_all, toList_mk, size_mk, HZ.out, hrll, hzll] at HI2
          rw [hrll] at hrl hzl
          have hrl1 : rl ≤ ul := by omega
          clear hrl
          rw [hzll] at hzl
          have HRL := Lib.hid hrll
          have HZL := Lib.hid hzll
          have HTZ := Lib.hid (hzll ▸ HTZ.out)
          have HV := Lib.hid (hzll ▸ HV.out)
          have HEX2 := Lib.hid (show Value.string ((⟨u.toArray⟩ : ByteArray).extract al ul) = strv r by rw [HEX2.out])
          have HI2 := Lib.hid (show Calls Tryz.prog 114 #[.string ((⟨u.toArray⟩ : ByteArray).extract al ul), .func (.func 119) #[] #[.pointer (some ⟨q, 0, none⟩)]] w4 fun e w' => e = .returned (.int .i64 (if zl < rl then (zl : Int) else -1)) ∧ Below w4.heap.size w4 w' by rw [HEX2.out]; exact HI2.out)
          have rsz : ((⟨u.toArray⟩ : ByteArray).extract al ul).size = rl := by
            have h1 := HEX2.out
            simp only [strv, Value.string.injEq] at h1
            rw [h1, size_mk]
            exact HRL.out
          clear hbox4 cq4 HP2 hrll hzll
          go_wp2_with fail
          refine HI2.out.mono ?_
          rintro e w5 ⟨rfl, hb5⟩
          have hsz5 := Nat.le_trans HAT4.out.lt.2 (Nat.le_of_lt HAT4.out.lt.1)
          have HAT5 := Lib.hid (HAT4.out.later hb5)
          have HWF5 := Lib.hid (HWF34.out.trans (WF.later (b := b) hsz5 hb5))
          have HWB5 := Lib.hid (HWB34.out.trans (WF.later (b := b) hsz5 hb5))
          clear hb5 hsz5
          go_upto_if 41 with fail
          go_cut [6] (fun nv wc => nv = .int .i64 (zl : Nat) ∧ wc = w5)
          case first =>
            by_cases hlt : zl < rl
            · rw [if_pos hlt]
              go_wp2_with fail
              go_meet
              case rel => exact ⟨rfl, rfl⟩
            · rw [if_neg hlt]
              have hae : zl = rl := by omega
              subst hae
              go_wp2_with fail
              go_meet
              case rel => exact ⟨rfl, rfl⟩
          case rest =>
            obtain ⟨rfl, hwc⟩ := hcut
            have hwc := hwc.symm
            subst hwc
            rw [HEX2.out]
            have hzI : (zl : Int) ≤ (rl : Int) := by omega
            have hrs : (⟨r.toArray⟩ : ByteArray).size = rl := by rw [size_mk, HRL.out]
            have HEZ := Lib.hid (show (⟨r.toArray⟩ : ByteArray).extract 0 zl = ⟨z.toArray⟩ by rw [extract_mk, HTZ.out])
            have HEV := Lib.hid (show Value.string ((⟨r.toArray⟩ : ByteArray).extract zl rl) = strv v by
              have := extract_mk2 r zl (by rw [HRL.out]; omega)
              rw [HRL.out] at this
              rw [this, HV.out])
            clear rsz
            go_wp2_with fail
            refine calls_gen ?_
            intro W6 hW6
            have hb6 : Below w5.heap.size w5 W6 := by rw [hW6]; exact (Below.refl _ _).alloc (Nat.le_refl _) _
            have HROW6 := Lib.hid (show TxtRow W6 w5.heap.size [z] from ⟨9, (0, 0), by decide, by decide, by rw [hW6, HEZ.out]; exact heap_alloc_new _ _⟩)
            have hat6 := HAT5.out.later hb6
            have hsz6 := Nat.le_trans HAT5.out.lt.2 (Nat.le_of_lt HAT5.out.lt.1)
            have HWF5x6 := Lib.hid (HWF5.out.trans (WF.later (b := b) hsz6 hb6))
            have HWB5x6 := Lib.hid (HWB5.out.trans (WF.later (b := b) hsz6 hb6))
            clear hW6 hb6
            refine (wr_all B b w5.heap.size (acc ++ rq) [z] W6 hat6 HROW6.out (by have := HFLEN.out; simp; omega) (by simp)).mono ?_
            rintro e w6 ⟨⟨rv6, rfl⟩, hw6, hf6⟩
            have HAT6 := Lib.hid (show WrAt B b (acc ++ rq ++ z) w6 by simpa using hw6)
            have HWF56 := Lib.hid (HWF5x6.out.trans hf6)
            have HWB56 := Lib.hid (HWB5x6.out.trans hf6)
            clear hw6 hf6 hat6 hsz6 HWF5x6 HWB5x6
            go_wp2_with fail
            go_roundw
            case rel => exact ⟨v, acc ++ rq ++ z, HEV.out, by have := HR2.out; have := HULN.out; have := HUL.out; omega, ⟨HAT6.out, HWF56.out, by
              have hbox6 : w6.heap[q]? = some (.cells #[.bool num] 4 (0, 0)) := HWB56.out.kept q _ HBX.out (by simpa using HQB.out) (fun c fz e => by cases e)
              rw [Lib.cell_of_heap hbox6]; rfl, by rw [← HFE.out]; simp⟩, HWB56.out⟩
            case measure =>
              have := HR2.out
              have := HULN.out
              rw [HEV.out]
              simp only [szS, strv]
              rw [size_mk, size_mk]
              omega
end Go.Proofs.YtdelpialeajajaaGreatDoor

/- A text's code points, and its bytes. -/
namespace Go.Proofs.YtdelpialeajajaaGreatDoor
open Go Go.RowKit
set_option maxRecDepth 10000

theorem offI_succ0 (r : Int) (rs : List Int) (i : Nat) : offI (r :: rs) (i + 1) = (enc r).length + offI rs i := by
  unfold offI
  rw [List.take_succ_cons, List.flatMap_cons, List.length_append]
/-- what is read is a point that may stand -/
theorem decN_ok (l : List UInt8) : okPt (decN l).1 := by
  have hb := (l.getD 0 0).toNat_lt
  have hb1 := (l.getD 1 0).toNat_lt
  have hb2 := (l.getD 2 0).toNat_lt
  have hb3 := (l.getD 3 0).toNat_lt
  unfold okPt decN Lib.decodeN
  repeat' split
  all_goals (simp only []; omega)
theorem enc_pt (n : Nat) (h : okPt n) : OkR (n : Int) ∧ enc (n : Int) = Lib.encodeRune (n : Int) := by
  have hv : Utf8.valid (n : Int) = true := by unfold Utf8.valid; unfold okPt at h; simp; omega
  have hn : n ≤ 1114111 := h.1
  have t : ∀ x : Int, ∀ k : Nat, x = (k : Int) → x.toNat.toUInt8 = UInt8.ofNat k := fun x k h => by rw [h]; rfl
  have tb : ∀ k : Nat, 128 ≤ k → k < 256 → 128 ≤ (UInt8.ofNat k).toNat := fun k h1 h2 => by rw [UInt8.toNat_ofNat', Nat.mod_eq_of_lt (by omega)]; exact h1
  have he : enc (n : Int) = (if n < 0x80 then [UInt8.ofNat n] else if n < 0x800 then [UInt8.ofNat (0xC0 + n / 64), UInt8.ofNat (0x80 + n % 64)]
      else if n < 0x10000 then [UInt8.ofNat (0xE0 + n / 4096), UInt8.ofNat (0x80 + n / 64 % 64), UInt8.ofNat (0x80 + n % 64)] else [UInt8.ofNat (0xF0 + n / 262144), UInt8.ofNat (0x80 + n / 4096 % 64), UInt8.ofNat (0x80 + n / 64 % 64), UInt8.ofNat (0x80 + n % 64)]) := by
    unfold enc Utf8.encode
    simp only [hv, if_true, Int.toNat_natCast]
    repeat' split
    all_goals rfl
  refine ⟨⟨by omega, fun h1 => ?_, fun h1 => ?_⟩, ?_⟩
  · rw [he, if_pos (by omega)]
    rfl
  · rw [he, if_neg (by omega)]
    split
    · exact ⟨by simp, fun c hc => by
        simp only [List.mem_cons, List.not_mem_nil, or_false] at hc
        rcases hc with rfl | rfl
        · exact tb _ (by omega) (by omega)
        · exact tb _ (by omega) (by omega)⟩
    split
    · exact ⟨by simp, fun c hc => by
        simp only [List.mem_cons, List.not_mem_nil, or_false] at hc
        rcases hc with rfl | rfl | rfl
        · exact tb _ (by omega) (by omega)
        · exact tb _ (by omega) (by omega)
        · exact tb _ (by omega) (by omega)⟩
    · exact ⟨by simp, fun c hc => by
        simp only [List.mem_cons, List.not_mem_nil, or_false] at hc
        rcases hc with rfl | rfl | rfl | rfl
        · exact tb _ (by omega) (by omega)
        · exact tb _ (by omega) (by omega)
        · exact tb _ (by omega) (by omega)
        · exact tb _ (by omega) (by omega)⟩
  · rw [he]
    unfold okPt at h
    unfold Lib.encodeRune
    by_cases c1 : n < 128
    · rw [if_pos c1, Lib.encodeRuneZ_one (by omega) (by omega)]
      simp only [List.map_cons, List.map_nil]
      rw [t _ n rfl]
    rw [if_neg c1]
    by_cases c2 : n < 2048
    · rw [if_pos c2, Lib.encodeRuneZ_two (by omega) (by omega)]
      simp only [List.map_cons, List.map_nil]
      rw [t _ (192 + n / 64) (by omega), t _ (128 + n % 64) (by omega)]
    rw [if_neg c2]
    by_cases c3 : n < 65536
    · rw [if_pos c3, Lib.encodeRuneZ_three (by omega)]
      simp only [List.map_cons, List.map_nil]
      rw [t _ (224 + n / 4096) (by omega), t _ (128 + n / 64 % 64) (by omega), t _ (128 + n % 64) (by omega)]
    · rw [if_neg c3, Lib.encodeRuneZ_four (by omega) (by omega)]
      simp only [List.map_cons, List.map_nil]
      rw [t _ (240 + n / 262144) (by omega), t _ (128 + n / 4096 % 64) (by omega), t _ (128 + n / 64 % 64) (by omega), t _ (128 + n % 64) (by omega)]

/-- a text's points, and its bytes -/
theorem runes_bytes : ∀ (n : Nat) (l : List UInt8), l.length ≤ n → (∀ r ∈ runesL l, OkR r) ∧ (runesL l).flatMap enc = l.take (ptsL l).2 ∧ (runesL l).length = (ptsL l).1.length ∧
    ∀ i, i ≤ (runesL l).length → (ptsL (l.take (offI (runesL l) i))).1.length = i
  | 0, l, h => by
    have : l = [] := List.eq_nil_of_length_eq_zero (by omega)
    subst this
    refine ⟨fun r hr => (by rw [runesL_nil] at hr; cases hr), by rw [runesL_nil]; simp, by rw [runesL_nil, ptsL_nil]; rfl, fun i hi => ?_⟩
    rw [runesL_nil] at hi
    have : i = 0 := by simpa using hi
    rw [List.take_nil, ptsL_nil, this]
    rfl
  | n + 1, l, h => by
    by_cases hl : l = []
    · subst hl
      refine ⟨fun r hr => (by rw [runesL_nil] at hr; cases hr), by rw [runesL_nil]; simp, by rw [runesL_nil, ptsL_nil]; rfl, fun i hi => ?_⟩
      rw [runesL_nil] at hi
      have : i = 0 := by simpa using hi
      rw [List.take_nil, ptsL_nil, this]
      rfl
    by_cases h0 : sizeL l = 0
    · have hr0 : runesL l = [] := by rw [runesL, dif_pos (.inr h0)]
      refine ⟨fun r hr => (by rw [hr0] at hr; cases hr), by rw [hr0, ptsL_bad h0]; simp, by rw [hr0, ptsL_bad h0]; rfl, fun i hi => ?_⟩
      rw [hr0] at hi
      have : i = 0 := by simpa using hi
      rw [this]
      show (ptsL (l.take 0)).1.length = 0
      rw [List.take_zero, ptsL_nil]
      rfl
    · have hle := sizeL_le l
      obtain ⟨i1, i2, i3, i4⟩ := runes_bytes n (l.drop (sizeL l)) (by simp; omega)
      have hp := enc_pt _ (decN_ok l)
      have hd : (decN l).2 = sizeL l ∧ ¬ ((decN l).1 = 65533 ∧ (decN l).2 = 1) := by
        cases l with
        | nil => exact absurd rfl hl
        | cons a r =>
          rcases size_ok a r with ⟨q, _⟩ | ⟨q1, q2, q3⟩
          · exact absurd q h0
          · exact ⟨q1.symm, q3⟩
      have hen : enc ((decN l).1 : Int) = l.take (sizeL l) := by
        rw [hp.2]
        have he := Lib.encode_decode l hl (by rw [decL_N]; exact hd.2)
        rw [decL_N] at he
        rw [he, hd.1]
      have hel : (enc ((decN l).1 : Int)).length = sizeL l := by rw [hen, List.length_take]; omega
      rw [runesL_step hl h0, ptsL_step hl h0]
      refine ⟨fun r hr => ?_, ?_, by simp [i3], fun i hi => ?_⟩
      · rcases List.mem_cons.1 hr with rfl | hr
        · exact hp.1
        · exact i1 r hr
      · rw [List.flatMap_cons, i2, hen, List.take_add]
      · cases i with
        | zero =>
          show (ptsL (l.take 0)).1.length = 0
          rw [List.take_zero, ptsL_nil]
          rfl
        | succ i =>
          rw [offI_succ0, hel]
          have ih := i4 i (by simpa using hi)
          have hs : sizeL (l.take (sizeL l + offI (runesL (l.drop (sizeL l))) i)) = sizeL l := sizeL_take h0 (Nat.le_add_right _ _)
          have hne : l.take (sizeL l + offI (runesL (l.drop (sizeL l))) i) ≠ [] := by
            intro q
            have := congrArg List.length q
            rw [List.length_take, List.length_nil] at this
            have := List.length_pos_iff.2 hl
            omega
          rw [ptsL_step hne (by rw [hs]; exact h0), hs, List.drop_take, Nat.add_sub_cancel_left]
          simp [ih]

theorem bp_of (s : ByteArray) (h : (ptsL s.data.toList).2 = s.size) : BpE s (runesL s.data.toList) where
  ok := (runes_bytes _ s.data.toList (Nat.le_refl _)).1
  eq := by
    rw [(runes_bytes _ s.data.toList (Nat.le_refl _)).2.1, h, List.take_of_length_le (by simp)]
theorem count_off (s : ByteArray) {i : Nat} (hi : i ≤ (runesL s.data.toList).length) : (ptsL (s.data.toList.take (offI (runesL s.data.toList) i))).1.length = i :=
  (runes_bytes _ s.data.toList (Nat.le_refl _)).2.2.2 i hi
end Go.Proofs.YtdelpialeajajaaGreatDoor

/- The plain law of patterns: what the program reads is what the document reads. -/
namespace Go.Proofs.YtdelpialeajajaaGreatDoor
open Go Go.RowKit
set_option maxRecDepth 10000

theorem markGo_add (s : ByteArray) (b : Nat) : ∀ (a : Nat) (x : Sc), markGo s (a + b) x = markGo s b (markGo s a x)
  | 0, x => by rw [Nat.zero_add]; rfl
  | a + 1, x => by
    by_cases h : x.err = 0 ∧ x.i < s.size
    · rw [show a + 1 + b = a + b + 1 by omega, markGo_more h, markGo_more h, markGo_add s b a]
    · rw [markGo_stop h, markGo_stop h, markGo_stop h]
theorem markGo_stops (s : ByteArray) : ∀ (n : Nat) (x : Sc), OkS x → s.size < x.i + n → ¬ ((markGo s n x).err = 0 ∧ (markGo s n x).i < s.size)
  | 0, x, _, h => fun q => by
    have := q.2
    simp only [markGo] at this
    omega
  | n + 1, x, ho, h => by
    by_cases hc : x.err = 0 ∧ x.i < s.size
    · rw [markGo_more hc]
      have h1 := ok_one s x ho hc.1 hc.2
      by_cases he : (oneS s x).err = 0
      · exact markGo_stops s n _ h1.1 (by have := h1.2.2 he; omega)
      · rw [markGo_stop (fun q => he q.1)]
        exact fun q => he q.1
    · rw [markGo_stop hc]
      exact hc
theorem okS_start : OkS startS := ⟨Nat.zero_le _, Nat.zero_le _, fun m hm => by cases hm⟩
/-- where the reader comes to an end -/
theorem goes_end {s : ByteArray} {y : Sc} (h : Goes s startS y) (hy : ¬ (y.err = 0 ∧ y.i < s.size)) : markGo s (s.size + 1) startS = y := by
  obtain ⟨n, hn⟩ := h
  have h1 := hn (s.size + 1)
  rw [markGo_stop hy, Nat.add_comm, markGo_add] at h1
  rw [markGo_stop (markGo_stops s (s.size + 1) startS okS_start (by show s.size < 0 + (s.size + 1); omega))] at h1
  exact h1
theorem marksS_bad {s : ByteArray} {y : Sc} {e a : Nat} (h : Goes s startS y) (hb : Bad e a y) : marksS s = y := by
  have he : ¬ y.err = 0 := by rw [hb.err]; exact hb.ne
  have h1 := goes_end h (fun q => he q.1)
  unfold marksS
  dsimp only
  rw [h1, if_neg (fun q => he q.1)]
theorem marksS_open {s : ByteArray} {y : Sc} (h : Goes s startS y) (h0 : y.err = 0) (hi : s.size ≤ y.i) (ho : y.opn ≠ []) : (marksS s).err = 3 ∧ (marksS s).place = s.size := by
  have h1 := goes_end h (fun q => by omega)
  unfold marksS
  dsimp only
  rw [h1, if_pos ⟨h0, ho⟩]
  unfold faultS
  rw [if_pos h0]
  exact ⟨rfl, rfl⟩
theorem marksS_done {s : ByteArray} {O : List Mk} (h : Goes s startS ⟨s.size, O, [], 0, 0⟩) : marksS s = ⟨s.size, O, [], 0, 0⟩ := by
  have h1 := goes_end h (fun q => Nat.lt_irrefl _ q.2)
  unfold marksS
  dsimp only
  rw [h1, if_neg (fun q => q.2 rfl)]

/-- a pattern that is a fault on both sides -/
structure LawE (s : ByteArray) (e a : Nat) : Prop where
  p : readP s.data.toList = .error (e, a)
  d : readD s = ([], e, a)
  ne : e ≠ 0
/-- a pattern that is a message on both sides -/
structure LawM (s : ByteArray) (rs : List Int) (f : Fo) : Prop where
  p : readP s.data.toList = .ok f
  d : readD s = (marksF rs f, 0, 0)
  names : namesD s (marksF rs f) = headsF f
  pl : ∀ m ∈ marksF rs f, m.pl ≤ s.size
  len : (marksF rs f).length ≤ 1000000

theorem names_marks (s : ByteArray) (h : ∀ i, i ≤ (runesL s.data.toList).length → countD s (offI (runesL s.data.toList) i) = i) : ∀ f : Fo, f.fit (runesL s.data.toList).length → namesD s (marksF (runesL s.data.toList) f) = headsF f
  | .nil, _ => rfl
  | .text t r, hf => names_marks s h r hf
  | .hash r, hf => names_marks s h r hf
  | .put n a r, hf => by
    have ih := names_marks s h r hf.2.2
    unfold namesD at ih ⊢
    rw [marksF, List.flatMap_cons, ih, headsF]
    unfold nameD
    rw [if_neg hf.1]
    show (n, countD s (offI _ a)) :: _ = _
    rw [h a (Nat.le_of_lt hf.2.1)]
    rfl
  | .num n a r, hf => by
    have ih := names_marks s h r hf.2.2
    unfold namesD at ih ⊢
    rw [marksF, List.flatMap_cons, ih, headsF]
    unfold nameD
    rw [if_neg hf.1]
    show (n, countD s (offI _ a)) :: _ = _
    rw [h a (Nat.le_of_lt hf.2.1)]
    rfl
  | .br n a fo o c bs r, hf => by
    obtain ⟨f1, f2, f3, f4, f5, f6⟩ := hf
    have ih := names_marks s h r f6
    have ih2 := names_marks s h bs f5
    unfold namesD at ih ih2 ⊢
    rw [marksF, List.flatMap_cons, List.flatMap_append, List.flatMap_cons, ih, ih2, headsF]
    unfold nameD
    rw [if_neg f1, if_pos rfl]
    show (n, countD s (offI _ a)) :: _ = _
    rw [h a (Nat.le_of_lt f2)]
    rfl
  | .leg k a m r, hf => by
    obtain ⟨f1, f2, f3⟩ := hf
    have ih := names_marks s h r f3
    have ih2 := names_marks s h m f2
    unfold namesD at ih ih2 ⊢
    rw [marksF, List.flatMap_cons, List.flatMap_append, List.flatMap_cons, ih, ih2, headsF]
    unfold nameD
    rw [if_pos rfl, if_pos rfl]
    rfl
theorem marks_pl {s : ByteArray} {rs : List Int} (E : BpE s rs) : ∀ f : Fo, ∀ m ∈ marksF rs f, m.pl ≤ s.size
  | .nil, m, h => by cases h
  | .text t r, m, h => by
    rcases List.mem_cons.1 h with rfl | h
    · exact Nat.zero_le _
    · exact marks_pl E r m h
  | .hash r, m, h => by
    rcases List.mem_cons.1 h with rfl | h
    · exact Nat.zero_le _
    · exact marks_pl E r m h
  | .put n a r, m, h => by
    rcases List.mem_cons.1 h with rfl | h
    · exact E.le a
    · exact marks_pl E r m h
  | .num n a r, m, h => by
    rcases List.mem_cons.1 h with rfl | h
    · exact E.le a
    · exact marks_pl E r m h
  | .br n a fo o c bs r, m, h => by
    rcases List.mem_cons.1 h with rfl | h
    · exact E.le a
    rcases List.mem_append.1 h with h | h
    · exact marks_pl E bs m h
    rcases List.mem_cons.1 h with rfl | h
    · exact E.le c
    · exact marks_pl E r m h
  | .leg k a mm r, m, h => by
    rcases List.mem_cons.1 h with rfl | h
    · exact E.le a
    rcases List.mem_append.1 h with h | h
    · exact marks_pl E mm m h
    rcases List.mem_cons.1 h with rfl | h
    · exact Nat.zero_le _
    · exact marks_pl E r m h

/-- the law: both sides read a pattern as the same -/
theorem read_law (s : ByteArray) : (1000 < s.size ∨ (ptsL s.data.toList).2 < s.size ∨ RdOk s) ∧ ((∃ e a, LawE s e a) ∨ ∃ f, LawM s (runesL s.data.toList) f) := by
  by_cases hl : 1000 < s.size
  · refine ⟨.inl hl, .inl ⟨1, 0, ?_, if_pos hl, by decide⟩⟩
    unfold readP parseR
    rw [if_pos (by simpa using hl)]
  by_cases hp : (ptsL s.data.toList).2 < s.size
  · refine ⟨.inr (.inl hp), .inl ⟨2, (ptsL s.data.toList).1.length, ?_, ?_, by decide⟩⟩
    · unfold readP parseR
      rw [if_neg (by simpa using hl), if_pos (by simpa using hp)]
    · unfold readD
      rw [if_neg hl, if_pos hp]
  have hle := pts_le _ s.data.toList (Nat.le_refl _)
  rw [size_toList] at hle
  have hpe : (ptsL s.data.toList).2 = s.size := by omega
  have E := bp_of s hpe
  have hcnt : ∀ i, i ≤ (runesL s.data.toList).length → countD s (offI (runesL s.data.toList) i) = i := fun i hi => count_off s hi
  have hD : readD s = if (firstD s).1 ≠ 0 then ([], (firstD s).1, countD s (firstD s).2) else ((marksS s).out, 0, 0) := by
    unfold readD
    rw [if_neg hl, if_neg hp]
  have hPR : parseR s.data.toList = (match parseL (runesL s.data.toList) with | .error e => .error e | .ok x => .ok x.1) := by
    unfold parseR
    rw [if_neg (by simpa using hl), if_neg (by simpa using hp)]
    rfl
  have hsim := E.parse
  -- the document's reader stops at a fault
  have bad : ∀ e a, e ≠ 0 → a ≤ (runesL s.data.toList).length → (marksS s).err = e → (marksS s).place = offI (runesL s.data.toList) a → RdOk s ∧ readD s = ([], e, a) := by
    intro e a h0 ha h1 h2
    have hf : firstD s = (e, offI (runesL s.data.toList) a) := by
      unfold firstD
      rw [if_neg (by rw [h1]; exact h0), h1, h2]
    refine ⟨⟨fun q => absurd (h1.symm.trans q) h0, fun _ => by rw [hf]; exact E.le a, fun q => absurd (h1.symm.trans q) h0⟩, ?_⟩
    rw [hD, hf, if_pos h0]
    show ([], e, countD s (offI _ a)) = _
    rw [hcnt a ha]
  cases hpar : parseL (runesL s.data.toList) with
  | error x =>
    obtain ⟨e, a⟩ := x
    rw [hpar] at hsim
    obtain ⟨ha, y, hg, hy⟩ := hsim
    have hPe : readP s.data.toList = .error (e, a) := by
      unfold readP
      rw [hPR, hpar]
    rcases hy with hb | ⟨h0, hi, ho, rfl, rfl⟩
    · have hm := marksS_bad hg hb
      have := bad e a hb.ne ha (by rw [hm]; exact hb.err) (by rw [hm]; exact hb.pl)
      exact ⟨.inr (.inr this.1), .inl ⟨e, a, hPe, this.2, hb.ne⟩⟩
    · have hm := marksS_open hg h0 hi ho
      have := bad 3 _ (by decide) ha hm.1 (by rw [hm.2]; exact E.size)
      exact ⟨.inr (.inr this.1), .inl ⟨3, _, hPe, this.2, by decide⟩⟩
  | ok x =>
    obtain ⟨f, j⟩ := x
    rw [hpar] at hsim
    have hm := marksS_done hsim
    have hfit := E.parse_fit hpar
    have hok : OkS (marksS s) := by
      have h1 := (markGo_ok s (s.size + 1) startS okS_start).1
      rw [goes_end hsim (fun q => Nat.lt_irrefl _ q.2)] at h1
      rw [hm]
      exact h1
    have hlen : (marksF (runesL s.data.toList) f).length ≤ 1000000 := by
      have := hok.n
      rw [hm] at this
      have h2 : (marksF (runesL s.data.toList) f).length ≤ 2 * s.size := this
      omega
    have hfd : firstD s = faultsD (marksF (runesL s.data.toList) f) := by
      unfold firstD
      rw [hm]
      rfl
    have hwf : ∀ (L : List Mk), (marksS s).out = L → L = marksF (runesL s.data.toList) f → ∀ i (h : i < L.length), L[i].kind = 40 → endL L i < L.length := by
      rintro L - rfl i hi hk
      have := end_in (runesL s.data.toList) f [] [] i (Nat.zero_le _) (by simpa using hi) (by
        rw [List.nil_append, List.append_nil]
        unfold mkA
        rw [List.getD_eq_getElem?_getD, List.getElem?_eq_getElem hi]
        exact hk)
      simpa using this
    have rd : (firstD s).2 ≤ s.size → RdOk s := fun h => ⟨fun _ i hi hk => hwf _ rfl (by rw [hm]) i hi hk, fun _ => h, fun _ => by rw [hm]; exact hlen⟩
    rcases faults_law E hfit with ⟨c1, c2⟩ | ⟨e, a, c1, c2, c3, c4⟩
    · refine ⟨.inr (.inr (rd (by rw [hfd, c2]; exact Nat.zero_le _))), .inr ⟨f, by unfold readP; rw [hPR, hpar]; dsimp only; rw [c1], ?_, names_marks s hcnt f hfit, marks_pl E f, hlen⟩⟩
      rw [hD, hfd, c2, if_neg (fun q => q rfl), hm]
    · refine ⟨.inr (.inr (rd (by rw [hfd, c4]; exact E.le a))), .inl ⟨e, a, by unfold readP; rw [hPR, hpar]; dsimp only; rw [c1], ?_, c2⟩⟩
      rw [hD, hfd, c4, if_pos c2]
      show ([], e, countD s (offI _ a)) = _
      rw [hcnt a (Nat.le_of_lt c3)]
end Go.Proofs.YtdelpialeajajaaGreatDoor

/- What the parser makes is slim: names, offsets; so its one form is short, and the document's is the same. -/
namespace Go.Proofs.YtdelpialeajajaaGreatDoor
open Go Go.RowKit
set_option maxRecDepth 10000

/-- a whole number's digits, without a nought ahead -/
structure OffW (o : Wd) : Prop where
  len : o.length ≤ 9
  dig : o.all isDig = true
  ne : o ≠ []
  lead : o.length = 1 ∨ o.headD 0 ≠ 48
theorem off_zero : OffW [48] := ⟨by decide, by decide, by decide, .inl rfl⟩
theorem OffW.val {o : Wd} (h : OffW o) : Lib.decDigits (offV o) = o ∧ (o = [48] ↔ offV o = 0) := by
  have hd : ∀ c ∈ o, 48 ≤ c.toNat ∧ c.toNat ≤ 57 := fun c hc => by
    have := (isDig_iff c).1 (List.all_eq_true.1 h.dig c hc)
    omega
  obtain ⟨h1, h2⟩ := dec_val o.length o rfl h.ne hd h.lead
  refine ⟨h1, fun e => by subst e; rfl, fun e => ?_⟩
  have h3 : o.headD 0 = 48 := Classical.byContradiction fun q => by have := h2 q; omega
  rcases h.lead with q | q
  · match o, q, h3 with
    | [c], _, h3 => rw [show c = 48 from h3]
  · exact absurd h3 q

/-- names and offsets of a message -/
def Fo.slim : Fo → Prop
  | .nil => True
  | .text _ r => r.slim
  | .hash r => r.slim
  | .put n _ r => n.length ≤ 16 ∧ r.slim
  | .num n _ r => n.length ≤ 16 ∧ r.slim
  | .br n _ f o _ bs r => n.length ≤ 16 ∧ f < 3 ∧ OffW o ∧ bs.slim ∧ r.slim
  | .leg _ _ m r => m.slim ∧ r.slim
theorem Fo.slim_app : ∀ f g : Fo, f.slim → g.slim → (f.app g).slim
  | .nil, g, _, h => h
  | .text t r, g, h, h2 => Fo.slim_app r g h h2
  | .hash r, g, h, h2 => Fo.slim_app r g h h2
  | .put n a r, g, h, h2 => ⟨h.1, Fo.slim_app r g h.2 h2⟩
  | .num n a r, g, h, h2 => ⟨h.1, Fo.slim_app r g h.2 h2⟩
  | .br n a f o c b r, g, h, h2 => ⟨h.1, h.2.1, h.2.2.1, h.2.2.2.1, Fo.slim_app r g h.2.2.2.2 h2⟩
  | .leg k a m r, g, h, h2 => ⟨h.1, Fo.slim_app r g h.2 h2⟩
theorem Fo.slim_addText (t : Wd) : ∀ f : Fo, f.slim → (f.addText t).slim
  | .nil, _ => trivial
  | .text _ .nil, _ => trivial
  | .text _ (.text v r), h => Fo.slim_addText t (.text v r) h
  | .text _ (.hash r), h => Fo.slim_addText t (.hash r) h
  | .text _ (.put n a r), h => Fo.slim_addText t (.put n a r) h
  | .text _ (.num n a r), h => Fo.slim_addText t (.num n a r) h
  | .text _ (.br n a f o c b r), h => Fo.slim_addText t (.br n a f o c b r) h
  | .text _ (.leg k a m r), h => Fo.slim_addText t (.leg k a m r) h
  | .hash r, h => Fo.slim_addText t r h
  | .put n a r, h => ⟨h.1, Fo.slim_addText t r h.2⟩
  | .num n a r, h => ⟨h.1, Fo.slim_addText t r h.2⟩
  | .br n a f o c b r, h => ⟨h.1, h.2.1, h.2.2.1, h.2.2.2.1, Fo.slim_addText t r h.2.2.2.2⟩
  | .leg k a m r, h => ⟨h.1, Fo.slim_addText t r h.2⟩
theorem Fo.slim_off : ∀ f : Fo, f.slim → f.offOk Lib.decDigits offV
  | .nil, _ => trivial
  | .text _ r, h => Fo.slim_off r h
  | .hash r, h => Fo.slim_off r h
  | .put _ _ r, h => Fo.slim_off r h.2
  | .num _ _ r, h => Fo.slim_off r h.2
  | .br n a f o c bs r, h => by
    obtain ⟨h1, h2, h3, h4, h5⟩ := h
    refine ⟨h2, ?_, h3.val.2, Fo.slim_off bs h4, Fo.slim_off r h5⟩
    by_cases q : o = [48]
    · exact .inl q
    · exact .inr ⟨q, h3.val.1⟩
  | .leg _ _ m r, h => ⟨Fo.slim_off m h.1, Fo.slim_off r h.2⟩

theorem name_len (rs : List Int) (i : Nat) : nameN rs i ≤ 16 := by
  have h : ∀ f n, n ≤ 16 → runGo nameF rs i f n ≤ 16 := by
    intro f
    induction f with
    | zero => intro n h; exact h
    | succ f ih =>
      intro n h
      rw [runGo]
      split
      · next hc =>
        unfold nameF at hc
        simp only [Bool.and_eq_true, decide_eq_true_eq] at hc
        exact ih (n + 1) (by omega)
      · exact h
  exact h _ 0 (by omega)

def MsgSlim (m : MsgP) : Prop := ∀ num i f j, m num i = .ok (f, j) → f.slim

section
variable {s : ByteArray} {rs : List Int} (E : BpE s rs)
include E
theorem BpE.piece_len {i n : Nat} (h : Small rs i n) : (pieceL rs i n).length ≤ n := by
  rw [← E.piece h, List.length_take]
  exact Nat.min_le_left _ _
theorem BpE.name_slim {i j : Nat} {x : Wd} (h : nameP rs i = .ok (x, j)) : x.length ≤ 16 := by
  unfold nameP at h
  split at h
  · cases h
  · cases h
    have h1 := E.piece_len (E.nm i).2
    have h2 := name_len rs i
    omega
theorem BpE.whole_slim {i j : Nat} {x : Wd} (h : wholeP rs i = .ok (x, j)) : OffW x := by
  unfold wholeP at h
  split at h
  · cases h
  next h0 =>
  cases h
  obtain ⟨h1, h2, h3⟩ := whole_piece rs i h0
  refine ⟨h1, h2, h3, ?_⟩
  have hs := (E.wh i).2
  have hi : i < rs.length := by rcases hs.lt with q | q <;> omega
  obtain ⟨n, hn⟩ : ∃ n, wholeN rs i = n := ⟨_, rfl⟩
  have hd : ∀ k, k < n → wholeF (nextL rs i) (nextL rs (i + k)) k = true := fun k hk => runN_fits (F := wholeF (nextL rs i)) (rs := rs) (i := i) (k := k) (by rw [show runN (wholeF (nextL rs i)) rs i = wholeN rs i from rfl, hn]; exact hk)
  rw [hn] at hs ⊢
  by_cases h2n : 2 ≤ n
  · refine .inr ?_
    have hb := hd 1 (by omega)
    simp only [wholeF, Bool.and_eq_true, Bool.or_eq_true, decide_eq_true_eq, bne_iff_ne] at hb
    have hne : nextL rs i ≠ 48 := by
      rcases hb.2 with q | q
      · omega
      · exact q
    rw [← E.piece hs]
    obtain ⟨m, rfl⟩ : ∃ m, n = m + 1 := ⟨n - 1, by omega⟩
    have hh := E.head i 48 (by omega) (by omega)
    rw [E.drop]
    intro q
    apply hne
    apply hh.1
    refine Eq.trans ?_ (show _ = (48 : UInt8) from q)
    cases (rs.drop i).flatMap enc with
    | nil => rfl
    | cons a t => rfl
  · refine .inl ?_
    have h4 := E.piece_len hs
    have h5 := List.length_pos_iff.2 (hn ▸ h3)
    omega
omit E in
theorem leg_slim {msg : Option MsgP} {num : Bool} {i j : Nat} {f : Fo} (hm : ∀ m, msg = some m → MsgSlim m) (h : legP rs msg num i = .ok (f, j)) : f.slim := by
  unfold legP at h
  obtain ⟨k, a, h1, h2⟩ := then_inv h
  obtain ⟨u, b, h3, h4⟩ := then_inv h2
  cases msg with
  | none => cases h4
  | some m =>
    obtain ⟨g, c, h5, h6⟩ := then_inv (show (m num b).then _ = _ from h4)
    obtain ⟨u2, z, h7, h8⟩ := then_inv h6
    cases h8
    exact ⟨hm m rfl _ _ _ _ h5, trivial⟩
omit E in
theorem legs_slim {msg : Option MsgP} {num : Bool} (hm : ∀ m, msg = some m → MsgSlim m) : ∀ (n : Nat) (acc : Fo) (i j : Nat) (f : Fo), legsP rs msg num n acc i = .ok (f, j) → acc.slim → f.slim
  | 0, acc, i, j, f, h, _ => by cases h
  | n + 1, acc, i, j, f, h, hb => by
    rw [legsP] at h
    split at h
    · cases h
      exact hb
    · obtain ⟨g, q, h1, h2⟩ := then_inv h
      exact legs_slim hm n _ _ _ _ h2 (Fo.slim_app _ _ hb (leg_slim hm h1))
theorem BpE.off_slim {form i j : Nat} {o : Wd} (h : offP rs form i = .ok (o, j)) : OffW o := by
  unfold offP at h
  split at h
  · obtain ⟨a, q, h1, h2⟩ := then_inv h
    cases h2
    exact E.whole_slim h1
  · cases h
    exact off_zero
theorem BpE.arg_slim {msg : Option MsgP} {i j : Nat} {f : Fo} (hm : ∀ m, msg = some m → MsgSlim m) (h : argP rs msg i = .ok (f, j)) : f.slim := by
  unfold argP at h
  obtain ⟨u, a, h1, h2⟩ := then_inv h
  obtain ⟨nm, b, h3, h4⟩ := then_inv h2
  have hn := E.name_slim h3
  clear h h1 h2 h3
  split at h4
  · obtain ⟨u, z, h5, h6⟩ := then_inv h4
    cases h6
    exact ⟨hn, trivial⟩
  · obtain ⟨wd, c, h5, h6⟩ := then_inv h4
    clear h4 h5
    split at h6
    · obtain ⟨u, z, h7, h8⟩ := then_inv h6
      cases h8
      exact ⟨hn, trivial⟩
    · split at h6
      · cases h6
      · next form hform =>
        obtain ⟨u, d, h7, h8⟩ := then_inv h6
        obtain ⟨o, l, h9, h10⟩ := then_inv h8
        obtain ⟨bs, q, h11, h12⟩ := then_inv h10
        obtain ⟨u, z, h13, h14⟩ := then_inv h12
        have hb := legs_slim hm _ _ _ _ _ h11 trivial
        have ho := E.off_slim h9
        have hfo := formL_lt hform
        cases h14
        exact ⟨hn, hfo, ho, hb, trivial⟩
theorem BpE.msg_slim {msg : Option MsgP} {num : Bool} (hm : ∀ m, msg = some m → MsgSlim m) : ∀ (n : Nat) (acc : Fo) (i j : Nat) (f : Fo), msgGo rs msg num n acc i = .ok (f, j) → acc.slim → f.slim
  | 0, acc, i, j, f, h, _ => by cases h
  | n + 1, acc, i, j, f, h, ha => by
    rw [msgGo] at h
    split at h
    · cases h
      exact ha
    split at h
    · obtain ⟨g, q, h1, h2⟩ := then_inv h
      exact BpE.msg_slim hm n _ _ _ _ h2 (Fo.slim_app _ _ ha (E.arg_slim hm h1))
    split at h
    · exact BpE.msg_slim hm n _ _ _ _ h (Fo.slim_app _ _ ha trivial)
    · exact BpE.msg_slim hm n _ _ _ _ h (Fo.slim_addText _ _ ha)
theorem BpE.msgs_slim : ∀ n, MsgSlim (msgP rs n)
  | 0, num, i, f, j, h => by
    rw [msgP] at h
    exact E.msg_slim (fun m e => by cases e) _ _ _ _ _ h trivial
  | n + 1, num, i, f, j, h => by
    rw [msgP] at h
    exact E.msg_slim (fun m e => by cases e; exact BpE.msgs_slim n) _ _ _ _ _ h trivial
theorem BpE.parse_slim {f : Fo} {j : Nat} (h : parseL rs = .ok (f, j)) : f.slim := by
  unfold parseL at h
  obtain ⟨g, q, h1, h2⟩ := then_inv h
  split at h2
  · cases h2
    exact E.msgs_slim 5 _ _ _ _ h1
  · cases h2
end

theorem form_len (f : Nat) : (formW f).length ≤ 13 := by
  match f with
  | 0 => decide
  | 1 => decide
  | k + 2 => show ordW.length ≤ 13; decide
theorem slim_marks (rs : List Int) : ∀ f : Fo, f.slim → ∀ m ∈ marksF rs f, m.name.length ≤ 16 ∧ m.how.length ≤ 13 ∧ m.off.length ≤ 9
  | .nil, _, m, h => by cases h
  | .text t r, hf, m, h => by
    rcases List.mem_cons.1 h with rfl | h
    · exact ⟨Nat.zero_le _, Nat.zero_le _, Nat.zero_le _⟩
    · exact slim_marks rs r hf m h
  | .hash r, hf, m, h => by
    rcases List.mem_cons.1 h with rfl | h
    · exact ⟨Nat.zero_le _, Nat.zero_le _, Nat.zero_le _⟩
    · exact slim_marks rs r hf m h
  | .put n a r, hf, m, h => by
    rcases List.mem_cons.1 h with rfl | h
    · exact ⟨hf.1, Nat.zero_le _, Nat.zero_le _⟩
    · exact slim_marks rs r hf.2 m h
  | .num n a r, hf, m, h => by
    rcases List.mem_cons.1 h with rfl | h
    · exact ⟨hf.1, by show numW.length ≤ 13; decide, Nat.zero_le _⟩
    · exact slim_marks rs r hf.2 m h
  | .br n a fo o c bs r, hf, m, h => by
    obtain ⟨f1, f2, f3, f4, f5⟩ := hf
    rcases List.mem_cons.1 h with rfl | h
    · exact ⟨f1, form_len fo, f3.len⟩
    rcases List.mem_append.1 h with h | h
    · exact slim_marks rs bs f4 m h
    rcases List.mem_cons.1 h with rfl | h
    · exact ⟨Nat.zero_le _, Nat.zero_le _, Nat.zero_le _⟩
    · exact slim_marks rs r f5 m h
  | .leg k a mm r, hf, m, h => by
    rcases List.mem_cons.1 h with rfl | h
    · exact ⟨Nat.zero_le _, Nat.zero_le _, Nat.zero_le _⟩
    rcases List.mem_append.1 h with h | h
    · exact slim_marks rs mm hf.1 m h
    rcases List.mem_cons.1 h with rfl | h
    · exact ⟨Nat.zero_le _, Nat.zero_le _, Nat.zero_le _⟩
    · exact slim_marks rs r hf.2 m h

/-- a message that both sides read, more -/
structure LawC (s : ByteArray) (rs : List Int) (f : Fo) : Prop where
  law : LawM s rs f
  slim : f.slim
  txt : ∀ m ∈ marksF rs f, m.text.length ≤ 1000
  kind : ∀ m ∈ marksF rs f, m.kind < 256
  cnt : (marksF rs f).length ≤ 2000
  form : canGo [] (marksF rs f) = wrF Lib.decDigits offV false f
  open_ : canOk [] (marksF rs f)
  len : (wrF Lib.decDigits offV false f).length ≤ 10000000
theorem law_more {s : ByteArray} {f : Fo} (h : LawM s (runesL s.data.toList) f) : LawC s (runesL s.data.toList) f := by
  have hp := h.p
  unfold readP at hp
  have hpr : parseR s.data.toList = .ok f := by
    cases hq : parseR s.data.toList with
    | error e => rw [hq] at hp; cases hp
    | ok g =>
      rw [hq] at hp
      dsimp only at hp
      split at hp
      · cases hp; rfl
      · cases hp
  unfold parseR at hpr
  split at hpr
  · cases hpr
  next h1 =>
  split at hpr
  · cases hpr
  next h2 =>
  have hle := pts_le _ s.data.toList (Nat.le_refl _)
  rw [size_toList] at h1 h2 hle
  have E := bp_of s (by omega)
  have hsim := E.parse
  cases hpl : parseL (runesL s.data.toList) with
  | error e => rw [hpl] at hpr; cases hpr
  | ok x =>
    obtain ⟨g, j⟩ := x
    rw [hpl] at hpr hsim
    have hgf : f = g := by cases hpr; rfl
    subst hgf
    have hm := marksS_done hsim
    have hok := (markGo_ok s (s.size + 1) startS okS_start).1
    rw [goes_end hsim (fun q => Nat.lt_irrefl _ q.2)] at hok
    have hs := E.parse_slim hpl
    have hc := canon_law (runesL s.data.toList) Lib.decDigits offV f (Fo.slim_off f hs)
    have ht : ∀ m ∈ marksF (runesL s.data.toList) f, m.text.length ≤ 1000 := fun m hm => by
      have h5 := (hok.m m hm).2
      have h6 : m.text.length ≤ s.size := h5
      omega
    have hn : (marksF (runesL s.data.toList) f).length ≤ 2000 := by
      have h5 := hok.n
      have h6 : (marksF (runesL s.data.toList) f).length ≤ 2 * s.size := h5
      omega
    refine ⟨h, hs, ht, fun m hm => (hok.m m hm).1, hn, hc.1, hc.2, ?_⟩
    have hl := canGo_len (marksF (runesL s.data.toList) f) [] 4200 (fun m hm => by
      have a1 := ht m hm
      have a2 := slim_marks _ f hs m hm
      unfold massM
      omega)
    rw [hc.1] at hl
    have : (marksF (runesL s.data.toList) f).length * 4200 ≤ 2000 * 4200 := Nat.mul_le_mul_right _ hn
    omega
end Go.Proofs.YtdelpialeajajaaGreatDoor
