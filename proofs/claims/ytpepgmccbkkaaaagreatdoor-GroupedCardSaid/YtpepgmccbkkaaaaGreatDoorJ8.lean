import Derived.Test.YtpepgmccbkkaaaaGreatDoorJ7
import Derived.Lib.MapLaws
import Derived.Lib.RuneCount
import Derived.Lib.ValidU
import GoSem.Conv.StringToRunes

/- The document's code points against Go's: which texts are UTF-8, how many points, which. -/
namespace Go.Proofs.YtpepgmccbkkaaaaGreatDoor
open Go Go.RowKit
set_option maxRecDepth 10000

theorem decL_N (l : List UInt8) : Lib.decodeL l = decN l := Lib.decodeL_N l

theorem valid_go : ∀ (n : Nat) (l : List UInt8), l.length ≤ n → (Lib.validGoD n l = true ↔ (ptsL l).2 = l.length)
  | 0, l, h => by
    have : l = [] := List.eq_nil_of_length_eq_zero (by omega)
    subst this
    simp [Lib.validGoD, ptsL_nil]
  | n + 1, [], _ => by simp [Lib.validGoD, ptsL_nil]
  | n + 1, a :: r, h => by
    have hne : a :: r ≠ [] := by simp
    rw [Lib.validGoD, if_neg hne, decL_N]
    rcases size_ok a r with ⟨h1, h2⟩ | ⟨h1, h2, h3⟩
    · rw [h2, if_pos ⟨rfl, rfl⟩, ptsL_bad h1]
      simp
    · have hle := (sizeL_le (a :: r)).1
      rw [if_neg h3, ← h1, ptsL_step hne (by omega), valid_go n _ (by simp; simp at h; omega)]
      simp only [List.length_drop]
      omega

theorem valid_pts (l : List UInt8) : Lib.validD l = true ↔ (ptsL l).2 = l.length := valid_go l.length l (Nat.le_refl _)

/-- the points of a text -/
def runesL (l : List UInt8) : List Int :=
  if h : l = [] ∨ sizeL l = 0 then [] else ((decN l).1 : Int) :: runesL (l.drop (sizeL l))
termination_by l.length
decreasing_by
  have h1 : l ≠ [] := fun e => h (.inl e)
  have h2 : sizeL l ≠ 0 := fun e => h (.inr e)
  have := List.length_pos_iff.2 h1
  simp
  omega

theorem runesL_nil : runesL [] = [] := by rw [runesL]; simp
theorem runesL_step {l : List UInt8} (h0 : l ≠ []) (h : sizeL l ≠ 0) : runesL l = ((decN l).1 : Int) :: runesL (l.drop (sizeL l)) := by
  rw [runesL, dif_neg (by rintro (q | q) <;> contradiction)]

/-- each point is written as it was read -/
theorem runes_enc : ∀ (n : Nat) (l : List UInt8), l.length ≤ n → (runesL l).map Lib.encodeRune = (ptsL l).1
  | 0, l, h => by
    have : l = [] := List.eq_nil_of_length_eq_zero (by omega)
    subst this
    simp [runesL_nil, ptsL_nil]
  | n + 1, [], _ => by simp [runesL_nil, ptsL_nil]
  | n + 1, a :: r, h => by
    have hne : a :: r ≠ [] := by simp
    rcases size_ok a r with ⟨h1, h2⟩ | ⟨h1, h2, h3⟩
    · rw [ptsL_bad h1, runesL, dif_pos (.inr h1)]
      rfl
    · rw [runesL_step hne (by omega), ptsL_step hne (by omega), List.map_cons, runes_enc n _ (by simp; simp at h; omega)]
      have he := Lib.encode_decode (a :: r) hne (by rw [decL_N]; exact h3)
      rw [decL_N] at he
      rw [he, h1]

theorem dec_at (s : ByteArray) (i : Nat) (hi : i < s.size) : Utf8.decode s i = decN (s.data.toList.drop i) := by
  rw [Lib.decode_at]
  unfold decN
  have e : ∀ k, s.get! (i + k) = (s.data.toList.drop i).getD k 0 := fun k => by
    rw [List.getD_eq_getElem?_getD, List.getElem?_drop]
    by_cases hk : i + k < s.size
    · rw [List.getElem?_eq_getElem (by simpa using hk)]
      show s.data[i + k]! = _
      rw [getElem!_pos s.data (i + k) (by simpa using hk)]
      simp
    · rw [List.getElem?_eq_none (by simp; omega)]
      show s.data[i + k]! = _
      rw [getElem!_neg s.data (i + k) (by simpa using hk)]
      rfl
  have e0 := e 0
  rw [Nat.add_zero] at e0
  rw [e0, e 1, e 2, e 3]
  simp

theorem count_pts (s : ByteArray) : ∀ (fuel pos : Nat), s.size - pos ≤ fuel → pos ≤ s.size → (ptsL (s.data.toList.drop pos)).2 = s.size - pos → Lib.runeCountFrom s fuel pos = (ptsL (s.data.toList.drop pos)).1.length ∧
      ∀ acc, Conv.runesFrom s fuel pos acc = acc ++ ((runesL (s.data.toList.drop pos)).map (Value.int .i32)).toArray
  | 0, pos, h, hp, hv => by
    have hz : s.data.toList.drop pos = [] := List.drop_of_length_le (by simp; omega)
    rw [hz, ptsL_nil, runesL_nil]
    exact ⟨rfl, fun acc => by simp [Conv.runesFrom]⟩
  | fuel + 1, pos, h, hp, hv => by
    by_cases hlt : pos < s.size
    · have hne : s.data.toList.drop pos ≠ [] := by simp; omega
      have hd := dec_at s pos hlt
      have hok : sizeOk (s.data.toList.drop pos) := by
        cases hl : s.data.toList.drop pos with
        | nil => exact absurd hl hne
        | cons a r => exact size_ok a r
      rcases hok with ⟨h1, h2⟩ | ⟨h1, h2, h3⟩
      · rw [ptsL_bad h1] at hv
        simp at hv
        omega
      · have hle := (sizeL_le (s.data.toList.drop pos)).1
        simp only [List.length_drop, size_toList] at hle
        rw [ptsL_step hne (by omega)] at hv
        have hdd : (s.data.toList.drop pos).drop (sizeL (s.data.toList.drop pos)) = s.data.toList.drop (pos + sizeL (s.data.toList.drop pos)) := by rw [List.drop_drop]
        rw [hdd] at hv
        have ih := count_pts s fuel (pos + sizeL (s.data.toList.drop pos)) (by omega) (by omega) (by simp at hv; omega)
        rw [ptsL_step hne (by omega), runesL_step hne (by omega), hdd]
        constructor
        · rw [Lib.runeCountFrom, if_pos hlt, hd, ← h1, ih.1]
          simp; omega
        · intro acc
          rw [Conv.runesFrom, if_pos hlt, hd]
          dsimp only
          rw [← h1, ih.2]
          simp
    · have hz : s.data.toList.drop pos = [] := List.drop_of_length_le (by simp; omega)
      rw [hz, ptsL_nil, runesL_nil]
      exact ⟨by rw [Lib.runeCountFrom, if_neg hlt]; rfl, fun acc => by rw [Conv.runesFrom, if_neg hlt]; simp⟩
end Go.Proofs.YtpepgmccbkkaaaaGreatDoor
