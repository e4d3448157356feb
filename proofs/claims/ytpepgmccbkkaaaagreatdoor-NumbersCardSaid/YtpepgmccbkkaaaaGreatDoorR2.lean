/- Walks of phrasesref's functions on code points. -/
import Derived.Test.YtpepgmccbkkaaaaGreatDoorR1
namespace Go.Proofs.YtpepgmccbkkaaaaGreatDoor
open Go Go.RowKit
set_option maxRecDepth 10000

/-- a code point? -/
def isPt (r : Int) : Bool := decide (0 ≤ r ∧ r ≤ 0x10FFFF ∧ (r < 0xD800 ∨ 0xDFFF < r))

set_option maxHeartbeats 400000 in
theorem point_any (r : Int) (w : World) :
    Calls Tryz.prog 20 #[.int .i32 r] w fun e w' => e = .returned (.bool (isPt r)) ∧ w = w' := by
  by_cases h : isPt r = true
  · have h' := h
    simp only [isPt, decide_eq_true_eq] at h'
    obtain ⟨h1, h2, h3⟩ := h'
    rcases h3 with h3 | h3
    all_goals
      go_enter Tryz.func20, Tryz.ntmps20
      go_wp2
      go_ret
      refine ⟨ret_val ?_, rfl⟩; simp [*]
  · have h' : isPt r = false := by simpa using h
    have h2 : r < 0 ∨ 0x10FFFF < r ∨ (0xD800 ≤ r ∧ r ≤ 0xDFFF) := by
      simp only [isPt, decide_eq_true_eq] at h; omega
    clear h
    rcases h2 with h2 | h2 | ⟨h2, h3⟩
    · go_enter Tryz.func20, Tryz.ntmps20
      go_wp2
      go_ret
      refine ⟨ret_val ?_, rfl⟩; simp [*]
    · go_enter Tryz.func20, Tryz.ntmps20
      have h0 : 0 ≤ r := by omega
      go_wp2
      go_ret
      refine ⟨ret_val ?_, rfl⟩; simp [*]
    · go_enter Tryz.func20, Tryz.ntmps20
      have h0 : 0 ≤ r := by omega
      have h1 : r ≤ 0x10FFFF := by omega
      go_wp2
      go_ret
      refine ⟨ret_val ?_, rfl⟩; simp [*]

/-- the value of the bytes that follow the first -/
def ptVal (l : List UInt8) (v : Nat) : Nat := l.foldl (fun v c => 64 * v + (c.toNat - 128)) v

def isCont (c : UInt8) : Bool := 128 ≤ c && c ≤ 191

/-- the least number that n bytes may spell -/
def least (n : Nat) : Int := if n = 4 then 65536 else if n = 3 then 2048 else if n = 2 then 128 else 0

/-- size, by what its first byte says: how many bytes, the first one's part -/
def sizeBy (l : List UInt8) (n v : Nat) : Nat :=
  if l.length < n then 0 else if (l.tail.take (n - 1)).all isCont = false then 0
  else if (ptVal (l.tail.take (n - 1)) v : Int) < least n ∨ isPt (ptVal (l.tail.take (n - 1)) v) = false then 0 else n

def sizeL (l : List UInt8) : Nat :=
  let c := (l.headD 0).toNat
  if 240 ≤ c ∧ c < 248 then sizeBy l 4 (c - 240)
  else if 224 ≤ c ∧ c < 240 then sizeBy l 3 (c - 224)
  else if 192 ≤ c ∧ c < 224 then sizeBy l 2 (c - 192)
  else if 128 ≤ c then 0
  else sizeBy l 1 c

theorem headD_eq (s : ByteArray) (h : 0 < s.size) : s.data.toList.headD 0 = s[0] := by
  rw [← getElem_toList s 0 h, List.headD_eq_head?_getD, List.head?_eq_getElem?, List.getElem?_eq_getElem (by simpa using h)]
  rfl

theorem isCont_iff (c : UInt8) : isCont c = true ↔ (128 : Int) ≤ (c.toNat : Int) ∧ (c.toNat : Int) ≤ 191 := by
  simp [isCont, UInt8.le_iff_toNat_le]; omega

/-- the first k - 1 bytes behind the first -/
theorem tail_snoc (s : ByteArray) (k : Nat) (h1 : 1 ≤ k) (h : k < s.size) : s.data.toList.tail.take k = s.data.toList.tail.take (k - 1) ++ [s[k]] := by
  obtain ⟨j, rfl⟩ : ∃ j, k = j + 1 := ⟨k - 1, by omega⟩
  rw [List.take_succ_eq_append_getElem (by simp; omega)]
  simp [← getElem_toList s (j + 1) h]

theorem ptVal_snoc (l : List UInt8) (c : UInt8) (v : Nat) : ptVal (l ++ [c]) v = 64 * ptVal l v + (c.toNat - 128) := by simp [ptVal]

theorem ptVal_lt (l : List UInt8) : ∀ (v : Nat), l.all isCont = true → ptVal l v < 64 ^ l.length * (v + 1) := by
  induction l with
  | nil => intro v _; simp [ptVal]
  | cons a l ih =>
    intro v h
    simp only [List.all_cons, Bool.and_eq_true] at h
    have ha := (isCont_iff a).1 h.1
    have := ih (64 * v + (a.toNat - 128)) h.2
    have e : ptVal (a :: l) v = ptVal l (64 * v + (a.toNat - 128)) := rfl
    rw [e]
    refine Nat.lt_of_lt_of_le this ?_
    rw [List.length_cons, Nat.pow_succ, Nat.mul_assoc]
    exact Nat.mul_le_mul_left _ (by omega)

theorem sizeL_of {l : List UInt8} {n v : Nat} (H : (240 ≤ (l.headD 0).toNat ∧ (l.headD 0).toNat < 248 ∧ n = 4 ∧ v = (l.headD 0).toNat - 240) ∨
    (224 ≤ (l.headD 0).toNat ∧ (l.headD 0).toNat < 240 ∧ n = 3 ∧ v = (l.headD 0).toNat - 224) ∨
    (192 ≤ (l.headD 0).toNat ∧ (l.headD 0).toNat < 224 ∧ n = 2 ∧ v = (l.headD 0).toNat - 192) ∨
    ((l.headD 0).toNat < 128 ∧ n = 1 ∧ v = (l.headD 0).toNat)) : sizeL l = sizeBy l n v := by
  unfold sizeL
  rcases H with ⟨h1, h2, rfl, rfl⟩ | ⟨h1, h2, rfl, rfl⟩ | ⟨h1, h2, rfl, rfl⟩ | ⟨h1, rfl, rfl⟩
  · rw [if_pos ⟨h1, h2⟩]
  · rw [if_neg (by omega), if_pos ⟨h1, h2⟩]
  · rw [if_neg (by omega), if_neg (by omega), if_pos ⟨h1, h2⟩]
  · rw [if_neg (by omega), if_neg (by omega), if_neg (by omega), if_neg (by omega)]

theorem sizeBy_short {l : List UInt8} {n v : Nat} (h : l.length < n) : sizeBy l n v = 0 := by rw [sizeBy, if_pos h]
theorem sizeBy_cont {l : List UInt8} {n v : Nat} (h : (l.tail.take (n - 1)).all isCont = false) : sizeBy l n v = 0 := by
  unfold sizeBy; rw [if_pos h]; simp
theorem sizeBy_end {l : List UInt8} {n v : Nat} (h0 : ¬ l.length < n) (h : (l.tail.take (n - 1)).all isCont = true) :
    sizeBy l n v = if (ptVal (l.tail.take (n - 1)) v : Int) < least n ∨ isPt (ptVal (l.tail.take (n - 1)) v) = false then 0 else n := by
  unfold sizeBy; rw [if_neg h0, if_neg (by rw [h]; simp)]

theorem cont_false_of (s : ByteArray) (k n : Nat) (h1 : 1 ≤ k) (hk : k < n) (hn : n ≤ s.size) (hc : isCont s[k] = false) : (s.data.toList.tail.take (n - 1)).all isCont = false := by
  rw [List.all_eq_false]
  refine ⟨s[k], ?_, by simp [hc]⟩
  rw [← getElem_toList s k (by omega), List.mem_take_iff_getElem]
  refine ⟨k - 1, by simp; omega, ?_⟩
  simp only [List.getElem_tail]
  congr 1; omega

end Go.Proofs.YtpepgmccbkkaaaaGreatDoor
