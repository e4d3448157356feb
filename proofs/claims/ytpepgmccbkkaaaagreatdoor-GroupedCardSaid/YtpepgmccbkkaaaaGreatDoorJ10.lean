import Derived.Test.YtpepgmccbkkaaaaGreatDoorJ9
import Derived.Lib.SmallJoins

/- phrasesref.shown: digits as a locale has them. -/
namespace Go.Proofs.YtpepgmccbkkaaaaGreatDoor
open Go Go.RowKit

/-- a locale's value -/
abbrev locv (c o : Value) (mi po gr fi ne : Int) (dg : ByteArray) : Value :=
  .agg #[c, o, .int .i32 mi, .int .i32 po, .int .i32 gr, .int .u8 fi, .int .u8 ne, .string dg]

/-- digits by a list of signs; of no list: themselves -/
def shownL (pts : List (List UInt8)) (ds : List UInt8) : List UInt8 :=
  if pts = [] then ds else ds.flatMap (fun c => pts.getD (c.toNat - 48) [])

theorem shownL_snoc {pts : List (List UInt8)} (h : pts ≠ []) (ds : List UInt8) (c : UInt8) : shownL pts (ds ++ [c]) = shownL pts ds ++ pts.getD (c.toNat - 48) [] := by
  simp [shownL, h]

/-- each code point is at most four bytes long -/
theorem ptsL_mem (l : List UInt8) : ∀ p ∈ (ptsL l).1, p.length ≤ 4 := by
  induction hn : l.length using Nat.strongRecOn generalizing l with
  | _ n ih =>
    intro p hp
    by_cases h : l = [] ∨ sizeL l = 0
    · rw [ptsL, dif_pos h] at hp; simp at hp
    · simp only [not_or] at h
      rw [ptsL_step h.1 h.2] at hp
      have hl := List.length_pos_iff.2 h.1
      rcases List.mem_cons.1 hp with rfl | hp
      · have := sizeL_le l; simp; omega
      · exact ih (l.drop (sizeL l)).length (by simp; omega) _ rfl p hp

theorem shownL_length (pts : List (List UInt8)) (h : ∀ p ∈ pts, p.length ≤ 4) (ds : List UInt8) : (shownL pts ds).length ≤ 4 * ds.length := by
  unfold shownL
  split
  · omega
  · induction ds with
    | nil => simp
    | cons c ds ih =>
      have hc : (pts.getD (c.toNat - 48) []).length ≤ 4 := by
        by_cases hlt : c.toNat - 48 < pts.length
        · rw [List.getD_eq_getElem?_getD, List.getElem?_eq_getElem hlt]; exact h _ (List.getElem_mem _)
        · rw [List.getD_eq_getElem?_getD, List.getElem?_eq_none (by omega)]; simp
      rw [List.flatMap_cons, List.length_append, List.length_cons]
      have := ih
      omega

theorem all_dig_getElem {s : ByteArray} (h : s.data.toList.all isDig = true) (k : Nat) (hk : k < s.size) : isDig s[k] = true := by
  rw [← getElem_toList s k hk]
  exact List.all_eq_true.1 h _ (List.getElem_mem _)

def ShownPost (pts : List (List UInt8)) (ds : List UInt8) (w : World) (e : Ending) (w' : World) : Prop :=
  e = .returned (strv (shownL pts ds)) ∧ Below w.heap.size w w'

set_option maxHeartbeats 800000 in
theorem shown_any (s : ByteArray) (c o : Value) (mi po gr fi ne : Int) (dg : ByteArray) (w : World) (hs : s.size ≤ 1000000) (hd : dg.size ≤ 1000000)
    (hdig : s.data.toList.all isDig = true) (h10 : (ptsL dg.data.toList).1 = [] ∨ (ptsL dg.data.toList).1.length = 10) :
    Calls Tryz.prog 25 #[.string s, locv c o mi po gr fi ne dg] w (ShownPost (ptsL dg.data.toList).1 s.data.toList w) := by
  have hpl := ptsL_mem dg.data.toList
  go_enter Tryz.func25, Tryz.ntmps25
  go_wp2_with fail
  refine (points_any _ _ (by omega)).mono ?_
  rintro e w1 ⟨v, rfl, hown, hb⟩
  generalize (ptsL dg.data.toList).1 = pts at *
  generalize (ptsL dg.data.toList).2 = np at *
  rcases h10 with rfl | h10
  · obtain ⟨a, cap, rfl⟩ := own_slice hown
    go_wp2
    go_ret
    refine ⟨ret_val ?_, ((Below.refl _ _).alloc (Nat.le_refl _) _).trans (hb.mono (by simp))⟩
    simp [shownL]
  · obtain ⟨g, cap, rfl, hg1, hg2, hcell⟩ := own_some hown (by omega)
    have hne : pts ≠ [] := by intro h; simp [h] at h10
    have h00 : (((pts.length : Nat) : Int) == 0) = false := by simp [h10]
    have hc1 : ∀ j, j < 10 → w1.cell? ⟨g, j, none⟩ = some (strv (pts.getD j [])) := by
      intro j hj
      rw [hcell j (by omega)]
      simp [List.getD_eq_getElem?_getD, List.getElem?_eq_getElem (show j < pts.length by omega)]
    have h10a : (10 : Int) ≤ (pts.length : Int) := by omega
    have hp4 : ∀ j : Nat, (pts[j]?.getD []).length ≤ 4 := by
      intro j
      by_cases hlt : j < pts.length
      · rw [List.getElem?_eq_getElem hlt]; exact hpl _ (List.getElem_mem _)
      · rw [List.getElem?_eq_none (by omega)]; simp
    have Hne := Lib.hid hne
    have Hp4 := Lib.hid hp4
    clear hne h10 hcell hown hp4
    go_wp2
    go_loop [7, 8] (fun t i => ∃ k : Nat, k ≤ s.size ∧ i = .int .i64 k ∧ t = strv (shownL pts (s.data.toList.take k))) (fun _ i => s.size - (intOf i).toNat)
    case atStart => exact ⟨0, by omega, rfl, by simp [shownL]⟩
    case round =>
      obtain ⟨k, hk, rfl, rfl⟩ := hrel
      have hl := shownL_length pts hpl (s.data.toList.take k)
      have hl2 : (s.data.toList.take k).length ≤ s.size := by simp; omega
      by_cases hlt : k < s.size
      · have hd := (isDig_iff _).1 (all_dig_getElem hdig k hlt)
        have hcx := hc1 (s[k].toNat - 48) (by omega)
        have hp := Hp4.out (s[k].toNat - 48)
        have hsn := shownL_snoc Hne.out (s.data.toList.take k) s[k]
        rw [← take_snoc s k hlt] at hsn
        have Hsn := Lib.hid hsn
        clear hsn
        go_wp2
        go_round
        case rel => exact ⟨k + 1, by omega, by go_num, by rw [Hsn.out, append_mk]; simp⟩
        case measure => simp [intOf]; omega
      · obtain rfl : k = s.size := by omega
        go_wp2
        go_ret
        rw [take_all]
        exact ⟨rfl, ((Below.refl _ _).alloc (Nat.le_refl _) _).trans (hb.mono (by simp))⟩
end Go.Proofs.YtpepgmccbkkaaaaGreatDoor
