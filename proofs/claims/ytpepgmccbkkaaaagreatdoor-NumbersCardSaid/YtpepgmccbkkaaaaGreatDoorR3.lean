/- phrasesref.points: a text's code points. -/
import Derived.Test.YtpepgmccbkkaaaaGreatDoorR2s
namespace Go.Proofs.YtpepgmccbkkaaaaGreatDoor
open Go Go.RowKit

theorem sizeBy_le (l : List UInt8) (n v : Nat) : sizeBy l n v ≤ l.length ∧ sizeBy l n v ≤ n := by
  unfold sizeBy
  repeat' split
  all_goals omega

theorem sizeL_le (l : List UInt8) : sizeL l ≤ l.length ∧ sizeL l ≤ 4 := by
  have h := fun n v => sizeBy_le l n v
  unfold sizeL
  simp only []
  split
  · exact h 4 _
  split
  · exact ⟨(h 3 _).1, by have := (h 3 ((l.headD 0).toNat - 224)).2; omega⟩
  split
  · exact ⟨(h 2 _).1, by have := (h 2 ((l.headD 0).toNat - 192)).2; omega⟩
  split
  · omega
  · exact ⟨(h 1 _).1, by have := (h 1 ((l.headD 0).toNat)).2; omega⟩

/-- a text's code points, each as its bytes, and how many bytes they are -/
def ptsL (l : List UInt8) : List (List UInt8) × Nat :=
  if h : l = [] ∨ sizeL l = 0 then ([], 0) else
    let r := ptsL (l.drop (sizeL l))
    (l.take (sizeL l) :: r.1, sizeL l + r.2)
  termination_by l.length
  decreasing_by
    simp only [not_or] at h
    have := List.length_pos_iff.2 h.1
    simp; omega

theorem ptsL_nil : ptsL [] = ([], 0) := by rw [ptsL]; simp
theorem ptsL_bad {l : List UInt8} (h : sizeL l = 0) : ptsL l = ([], 0) := by rw [ptsL]; simp [h]
theorem ptsL_step {l : List UInt8} (h0 : l ≠ []) (h : sizeL l ≠ 0) : ptsL l = (l.take (sizeL l) :: (ptsL (l.drop (sizeL l))).1, sizeL l + (ptsL (l.drop (sizeL l))).2) := by
  rw [ptsL, dif_neg (by simp [h0, h])]

def PointsPost (l : List UInt8) (w : World) (e : Ending) (w' : World) : Prop :=
  ∃ v, e = .returned (.tuple #[v, .int .i64 (ptsL l).2]) ∧ w'.ownsRow w.heap.size 9 1 v (ptsL l).1.length ((ptsL l).1.map strv) ∧ Below w.heap.size w w'

/-- the loop's relation -/
def PtsRel (l : List UInt8) (w : World) (v i : Value) (wr : World) : Prop :=
  ∃ (k : Nat) (acc : List (List UInt8)), k ≤ l.length ∧ i = .int .i64 k ∧ wr.ownsRow w.heap.size 9 1 v acc.length (acc.map strv) ∧ Below w.heap.size w wr ∧
    acc.length ≤ k ∧ (ptsL l).1 = acc ++ (ptsL (l.drop k)).1 ∧ (ptsL l).2 = k + (ptsL (l.drop k)).2

theorem ptsRel_step {l : List UInt8} {w : World} {k n : Nat} {acc : List (List UInt8)} {v' : Value} {w1 : World} (hk : k < l.length) (hn : sizeL (l.drop k) = n) (h0 : n ≠ 0)
    (hown : w1.ownsRow w.heap.size 9 1 v' (acc.length + 1) (acc.map strv ++ [strv ((l.drop k).take n)])) (hb : Below w.heap.size w w1)
    (hl : acc.length ≤ k) (h1 : (ptsL l).1 = acc ++ (ptsL (l.drop k)).1) (h2 : (ptsL l).2 = k + (ptsL (l.drop k)).2) : PtsRel l w v' (.int .i64 ((k : Int) + n)) w1 := by
  have hne : l.drop k ≠ [] := by simp; omega
  have hle := (sizeL_le (l.drop k)).1
  rw [hn] at hle
  simp only [List.length_drop] at hle
  rw [ptsL_step hne (by omega), hn, List.drop_drop] at h1 h2
  refine ⟨k + n, acc ++ [(l.drop k).take n], by omega, by go_num, ?_, hb, ?_, ?_, ?_⟩
  · simpa using hown
  · simp; omega
  · rw [h1]; simp
  · rw [h2]; simp; omega

set_option maxHeartbeats 800000 in
theorem points_any (s : ByteArray) (w : World) (hs : s.size ≤ 1000000000) :
    Calls Tryz.prog 21 #[.string s] w (PointsPost s.data.toList w) := by
  go_enter Tryz.func21, Tryz.ntmps21
  go_wp2
  go_loopw [4, 5] (fun v i wr => PtsRel s.data.toList w v i wr) (fun _ i _ => s.size - (intOf i).toNat)
  case atStart => exact ⟨0, [], by omega, rfl, World.ownsRow_nil _ _ _ _, Below.refl _ _, by simp, by simp, by simp⟩
  case round =>
    obtain ⟨k, acc, hk, rfl, hown, hb, hl, h1, h2⟩ := hrel
    rw [size_toList] at hk
    have H1 := Lib.hid h1
    have H2 := Lib.hid h2
    clear h1 h2
    by_cases hlt : k < s.size
    · have e1 : (s.extract k s.size).data.toList = s.data.toList.drop k := by rw [extract_drop]
      have hle := sizeL_le (s.data.toList.drop k)
      simp only [List.length_drop, size_toList] at hle
      obtain ⟨n, hn⟩ : ∃ n, sizeL (s.data.toList.drop k) = n := ⟨_, rfl⟩
      rw [hn] at hle
      go_wp2_with fail
      refine (size_any _ _ (by simp; omega) (by simp; omega)).mono ?_
      rw [e1, hn]
      have Hn := Lib.hid hn
      clear hn e1
      rintro e w' ⟨rfl, rfl⟩
      by_cases h0 : n = 0
      · subst h0
        go_wp2
        go_ret2
        have hz := ptsL_bad Hn.out
        refine ⟨_, ?_, (by rw [H1.out, hz]; simpa using hown), hb⟩
        rw [H2.out, hz]
        rfl
      · have h0' : ((n : Int) == 0) = false := by simpa using h0
        go_wp2_with (at_builtin; refine app_own elem_strs rfl _ _ rfl w.heap.size _ _ _ rfl (hown.alloc _) ⟨wr.heap.size, 0, none⟩ 1 1 [.string (s.extract k (k + n))] rfl rfl ?c1 ?c2 ?c3 ?c4 ?_)
        case c1 => exact cells_one (by simp)
        case c2 => intro u hu; simp at hu; subst hu; rfl
        case c3 => omega
        case c4 => have := hb.size; simp; omega
        intro v' w1 hown' hgrow
        go_wp2
        go_roundw
        case rel =>
          have e2 : s.extract k (k + n) = ⟨((s.data.toList.drop k).take n).toArray⟩ := by rw [extract_eq, Nat.add_sub_cancel_left]
          rw [e2] at hown'
          exact ptsRel_step (by rw [size_toList]; exact hlt) Hn.out h0 hown' ((hb.alloc hb.size _).grown hgrow (by have := hb.size; simp; omega) (fun q hq => (hown.lt q hq).1)) hl H1.out H2.out
        case measure => simp [intOf]; omega
    · go_wp2
      go_ret2
      have hz : ptsL (s.data.toList.drop k) = ([], 0) := by rw [List.drop_of_length_le (by simp; omega), ptsL_nil]
      refine ⟨_, ?_, (by rw [H1.out, hz]; simpa using hown), hb⟩
      rw [H2.out, hz]
      rfl
end Go.Proofs.YtpepgmccbkkaaaaGreatDoor
