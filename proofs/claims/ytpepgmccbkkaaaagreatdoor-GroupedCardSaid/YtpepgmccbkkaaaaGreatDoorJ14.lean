import Derived.Test.YtpepgmccbkkaaaaGreatDoorJ13
import Derived.IntWalk

/- The document's rules: a rule's words. -/
namespace Go.Proofs.YtpepgmccbkkaaaaGreatDoor
open Go Go.RowKit
set_option maxRecDepth 10000

/-- a byte more behind the last word -/
def joinL (out : List (List UInt8)) (c : UInt8) : List (List UInt8) := out.set (out.length - 1) (out.getD (out.length - 1) [] ++ [c])

/-- words, numbers and signs, from some place on -/
def wordsGo : List UInt8 → List (List UInt8) → Nat → Option (List (List UInt8))
  | [], out, _ => some out
  | c :: t, out, last =>
    if kindL c = 3 then wordsGo t out 3
    else if 0 < kindL c ∧ kindL c = last then wordsGo t (joinL out c) (kindL c)
    else if 0 < kindL c ∨ c = 61 ∨ c = 44 ∨ c = 37 then wordsGo t (out ++ [[c]]) (kindL c)
    else match t with
      | [] => none
      | d :: t2 => if (c = 33 ∧ d = 61) ∨ (c = 46 ∧ d = 46) then wordsGo t2 (out ++ [[c, d]]) 0 else none

/-- a rule's words, up to its samples; none: something else stands there -/
def wordsL (l : List UInt8) : Option (List (List UInt8)) := wordsGo (l.take (l.idxOf 64)) [] 3

theorem kindL_le (c : UInt8) : kindL c ≤ 3 := by
  unfold kindL
  split
  · decide
  split
  · decide
  split <;> decide

def WordsPost (r : Option (List (List UInt8))) (w : World) (e : Ending) (w' : World) : Prop :=
  (match r with | some ws => ∃ v, e = .returned (.tuple #[v, .bool true]) ∧ w'.ownsRow w.heap.size 9 1 v ws.length (ws.map strv) | none => e = .returned (.tuple #[.slice none 0 0, .bool false])) ∧ Below w.heap.size w w'

/-- the loop's relation -/
def WordsRel (t : ByteArray) (r : Option (List (List UInt8))) (w : World) (v lst i : Value) (wr : World) : Prop :=
  ∃ (k last : Nat) (acc : List (List UInt8)), k ≤ t.size ∧ i = .int .i64 k ∧ lst = .int .i64 last ∧ wr.ownsRow w.heap.size 9 1 v acc.length (acc.map strv) ∧ Below w.heap.size w wr ∧
    acc.length ≤ k ∧ (∀ x ∈ acc, x.length ≤ k) ∧ last ≤ 3 ∧ (last = 1 ∨ last = 2 → acc ≠ []) ∧ wordsGo (t.data.toList.drop k) acc last = r

theorem drop_cons (t : ByteArray) (k : Nat) (h : k < t.size) : t.data.toList.drop k = t[k] :: t.data.toList.drop (k + 1) := by
  rw [List.drop_eq_getElem_cons (by simpa using h), getElem_toList t k h]

theorem go_blank {c : UInt8} {t out last} (h : kindL c = 3) : wordsGo (c :: t) out last = wordsGo t out 3 := by rw [wordsGo.eq_def]; dsimp only; rw [if_pos h]
theorem go_join {c : UInt8} {t out last} (h3 : kindL c ≠ 3) (h : 0 < kindL c ∧ kindL c = last) : wordsGo (c :: t) out last = wordsGo t (joinL out c) (kindL c) := by rw [wordsGo.eq_def]; dsimp only; rw [if_neg h3, if_pos h]
theorem go_one {c : UInt8} {t out last} (h3 : kindL c ≠ 3) (h : ¬ (0 < kindL c ∧ kindL c = last)) (h1 : 0 < kindL c ∨ c = 61 ∨ c = 44 ∨ c = 37) : wordsGo (c :: t) out last = wordsGo t (out ++ [[c]]) (kindL c) := by
  rw [wordsGo.eq_def]; dsimp only; rw [if_neg h3, if_neg h, if_pos h1]
theorem go_two {c d : UInt8} {t out last} (h3 : kindL c = 0) (h1 : ¬ (c = 61 ∨ c = 44 ∨ c = 37)) (h2 : (c = 33 ∧ d = 61) ∨ (c = 46 ∧ d = 46)) : wordsGo (c :: d :: t) out last = wordsGo t (out ++ [[c, d]]) 0 := by
  have q0 : ¬ (0 < kindL c ∨ c = 61 ∨ c = 44 ∨ c = 37) := fun q => q.elim (by omega) h1
  rw [wordsGo.eq_def]; dsimp only; rw [if_neg (by omega), if_neg (by omega), if_neg q0, if_pos h2]
theorem go_bad {c d : UInt8} {t out last} (h3 : kindL c = 0) (h1 : ¬ (c = 61 ∨ c = 44 ∨ c = 37)) (h2 : ¬ ((c = 33 ∧ d = 61) ∨ (c = 46 ∧ d = 46))) : wordsGo (c :: d :: t) out last = none := by
  have q0 : ¬ (0 < kindL c ∨ c = 61 ∨ c = 44 ∨ c = 37) := fun q => q.elim (by omega) h1
  rw [wordsGo.eq_def]; dsimp only; rw [if_neg (by omega), if_neg (by omega), if_neg q0, if_neg h2]
theorem go_bad1 {c : UInt8} {out last} (h3 : kindL c = 0) (h1 : ¬ (c = 61 ∨ c = 44 ∨ c = 37)) : wordsGo [c] out last = none := by
  have q0 : ¬ (0 < kindL c ∨ c = 61 ∨ c = 44 ∨ c = 37) := fun q => q.elim (by omega) h1
  rw [wordsGo.eq_def]; dsimp only; rw [if_neg (by omega), if_neg (by omega), if_neg q0]

theorem ext_one (t : ByteArray) (k : Nat) (h : k < t.size) : t.extract k (k + 1) = ⟨[t[k]].toArray⟩ := by
  rw [extract_eq, drop_cons t k h, Nat.add_sub_cancel_left]
  rfl
theorem ext_two (t : ByteArray) (k : Nat) (h : k + 1 < t.size) : t.extract k (k + 2) = ⟨[t[k], t[k + 1]].toArray⟩ := by
  rw [extract_eq, drop_cons t k (by omega), drop_cons t (k + 1) h, Nat.add_sub_cancel_left]
  rfl

theorem rel_join {t : ByteArray} {r : Option (List (List UInt8))} {w wr : World} {k kd m g cap : Nat} {acc : List (List UInt8)} {lw : List UInt8} (hlt : k < t.size) (hkd : kindL t[k] = kd) (h3 : ¬ kd = 3) (h0 : ¬ kd = 0) (hkd3 : kd ≤ 3)
    (hm : acc.length = m + 1) (hmk : m + 1 ≤ k) (hlw : lw = acc.getD m []) (hx : ∀ x ∈ acc, x.length ≤ k) (ho : wr.ownsRow w.heap.size 9 1 (.slice (some ⟨g, 0, none⟩) acc.length cap) acc.length (acc.map strv)) (hg0 : w.heap.size ≤ g)
    (hb : Below w.heap.size w wr) (hG : wordsGo (t[k] :: t.data.toList.drop (k + 1)) acc kd = r) :
    WordsRel t r w (.slice (some ⟨g, 0, none⟩) (m + 1) cap) (.int .i64 kd) (.int .i64 ((k : Int) + 1)) (wr.setCell ⟨g, m, none⟩ (.string (⟨lw.toArray⟩ ++ t.extract k (k + 1)))).drew := by
  have hj : joinL acc t[k] = acc.set m (lw ++ [t[k]]) := by
    unfold joinL
    rw [hm, Nat.add_sub_cancel, ← hlw]
  have hlen : (joinL acc t[k]).length = m + 1 := by rw [hj, List.length_set, hm]
  refine ⟨k + 1, kd, joinL acc t[k], by omega, by go_num, rfl, ?_, ?_, by omega, ?_, hkd3, fun _ q => ?_, ?_⟩
  · rw [hlen, hj, List.map_set, ext_one t k hlt, append_mk]
    have := own_put ho m (by omega) (strv (lw ++ [t[k]]))
    rw [hm] at this
    exact this
  · exact (hb.setCell (p := ⟨g, m, none⟩) hg0 _).drew
  · intro x hxm
    rw [hj] at hxm
    rcases List.mem_or_eq_of_mem_set hxm with q | q
    · have := hx x q; omega
    · rw [q, hlw]
      have : (acc.getD m []).length ≤ k := by
        refine hx _ ?_
        rw [List.getD_eq_getElem?_getD, List.getElem?_eq_getElem (show m < acc.length by omega)]
        exact List.getElem_mem _
      simp only [List.length_append, List.length_cons, List.length_nil]
      omega
  · rw [q] at hlen; cases hlen
  · rw [← hG, go_join (by rw [hkd]; exact h3) ⟨by rw [hkd]; omega, hkd⟩, hkd]

theorem rel_one {t : ByteArray} {r : Option (List (List UInt8))} {w w1 : World} {k kd last : Nat} {acc : List (List UInt8)} {v' : Value} (hlt : k < t.size) (hkd : kindL t[k] = kd) (h3 : ¬ kd = 3) (hn : ¬ (0 < kd ∧ kd = last)) (hkd3 : kd ≤ 3)
    (h1 : 0 < kd ∨ t[k] = 61 ∨ t[k] = 44 ∨ t[k] = 37) (hl : acc.length ≤ k) (hx : ∀ x ∈ acc, x.length ≤ k) (ho : w1.ownsRow w.heap.size 9 1 v' (acc.length + 1) (acc.map strv ++ [.string (t.extract k (k + 1))]))
    (hb : Below w.heap.size w w1) (hG : wordsGo (t[k] :: t.data.toList.drop (k + 1)) acc last = r) :
    WordsRel t r w v' (.int .i64 kd) (.int .i64 ((k : Int) + 1)) w1 := by
  rw [ext_one t k hlt] at ho
  refine ⟨k + 1, kd, acc ++ [[t[k]]], by omega, by go_num, rfl, by simpa using ho, hb, by simp; omega, ?_, hkd3, fun _ q => by simp at q, ?_⟩
  · intro x hxm
    rcases List.mem_append.1 hxm with q | q
    · have := hx x q; omega
    · simp at q; subst q; simp
  · rw [← hG, go_one (by rw [hkd]; exact h3) (by rw [hkd]; exact hn) (by rw [hkd]; exact h1), hkd]

theorem rel_two {t : ByteArray} {r : Option (List (List UInt8))} {w w1 : World} {k last : Nat} {acc : List (List UInt8)} {v' : Value} (hlt : k + 1 < t.size) (hkd : kindL t[k] = 0)
    (h1 : ¬ (t[k] = 61 ∨ t[k] = 44 ∨ t[k] = 37)) (h2 : (t[k] = 33 ∧ t[k + 1] = 61) ∨ (t[k] = 46 ∧ t[k + 1] = 46)) (hl : acc.length ≤ k) (hx : ∀ x ∈ acc, x.length ≤ k) (ho : w1.ownsRow w.heap.size 9 1 v' (acc.length + 1) (acc.map strv ++ [.string (t.extract k (k + 2))]))
    (hb : Below w.heap.size w w1) (hG : wordsGo (t[k] :: t.data.toList.drop (k + 1)) acc last = r) :
    WordsRel t r w v' (.int .i64 (0 : Nat)) (.int .i64 ((k : Int) + 1 + 1)) w1 := by
  rw [ext_two t k hlt] at ho
  refine ⟨k + 2, 0, acc ++ [[t[k], t[k + 1]]], by omega, by go_num, rfl, by simpa using ho, hb, by simp; omega, ?_, by decide, fun q => by omega, ?_⟩
  · intro x hxm
    rcases List.mem_append.1 hxm with q | q
    · have := hx x q; omega
    · simp at q; subst q; simp
  · rw [← hG, drop_cons t (k + 1) hlt, go_two hkd h1 h2]

set_option maxHeartbeats 4000000 in
theorem words_any (s : ByteArray) (w : World) (hs : s.size ≤ 1000000) : Calls Tryz.prog 64 #[.string s] w (WordsPost (wordsL s.data.toList) w) := by
  obtain ⟨r, hr⟩ : ∃ r, wordsL s.data.toList = r := ⟨_, rfl⟩
  rw [hr]
  obtain ⟨t, ht⟩ : ∃ t : ByteArray, t = ⟨(s.data.toList.take (s.data.toList.idxOf 64)).toArray⟩ := ⟨_, rfl⟩
  have hts : t.size ≤ 1000000 := by rw [ht, size_mk]; simp; omega
  have hwr : wordsGo t.data.toList [] 3 = r := by rw [← hr, ht, toList_mk]; rfl
  have HT := Lib.hid ht
  have HR := Lib.hid hwr
  clear ht hr hwr
  go_enter Tryz.func64, Tryz.ntmps64
  go_wp2_with fail
  refine (cut_any s 64 _ (by omega)).mono ?_
  rw [← HT.out]
  rintro e w1 ⟨rfl, nd, rfl⟩
  go_wp2_with fail
  go_loopw [4, 5, 6] (fun v lst i wr => WordsRel t r w v lst i wr) (fun _ _ i _ => t.size - (intOf i).toNat)
  case atStart => exact ⟨0, 3, [], by omega, rfl, rfl, World.ownsRow_nil _ _ _ _, below_drewN (Below.refl _ _) nd, by simp, by simp, by decide, by simp, by rw [List.drop_zero]; exact HR.out⟩
  case round =>
    obtain ⟨k, last, acc, hk, rfl, rfl, hown, hb, hl, hlx, hlast, hne, hgo⟩ := hrel
    by_cases hlt : k < t.size
    · rw [drop_cons t k hlt] at hgo
      have HG := Lib.hid hgo
      have HX := Lib.hid hlx
      have HNE := Lib.hid hne
      clear hgo hlx hne
      have hk3 := kindL_le t[k]
      obtain ⟨kd, hkd⟩ : ∃ n, kindL t[k] = n := ⟨_, rfl⟩
      have HK := Lib.hid hkd
      rw [hkd] at hk3
      clear hkd
      go_wp2_with fail
      refine (kind_any t[k] _).mono ?_
      rw [HK.out]
      rintro e w2 ⟨rfl, rfl⟩
      by_cases k3 : kd = 3
      · subst k3
        go_wp2
        go_roundw
        case rel => exact ⟨k + 1, 3, acc, by omega, by go_num, rfl, hown, hb, by omega, fun x hx => by have := HX.out x hx; omega, by omega, fun h => by omega, by rw [← HG.out, go_blank HK.out]⟩
        case measure => simp [intOf]; omega
      · have k3' : ((kd : Int) == 3) = false := by simp; omega
        by_cases k0 : kd = 0
        · subst k0
          have HO := Lib.hid hown
          have kz : decide ((0 : Int) < ((0 : Nat) : Int)) = false := by decide
          by_cases e0 : t[k] = 61
          · have q0 : ((t[k].toNat : Int) == 61) = true := by rw [e0]; rfl
            have E0 := Lib.hid e0
            clear e0
            go_wp2_with (at_builtin; refine app_own elem_strs rfl _ _ rfl w.heap.size _ _ _ rfl (hown.alloc _) ⟨wr.heap.size, 0, none⟩ 1 1 [.string (t.extract k (k + 1))] rfl rfl ?ax1 ?ax2 ?ax3 ?ax4 ?_)
            case ax1 => exact cells_one (by simp)
            case ax2 => intro u hu; simp at hu; subst hu; rfl
            case ax3 => omega
            case ax4 => have := hb.size; simp; omega
            intro v' w1 hown' hgrow
            go_wp2
            go_roundw
            case rel => exact rel_one hlt HK.out (by decide) (fun q => absurd q.1 (by decide)) (by decide) (.inr (.inl E0.out)) hl HX.out hown' ((hb.alloc hb.size _).grown hgrow (by have := hb.size; simp; omega) (fun q hq => (HO.out.lt q hq).1)) HG.out
            case measure => simp [intOf]; omega
          have q0 : ((t[k].toNat : Int) == 61) = false := by rw [show ((61 : Int)) = (((61 : UInt8).toNat : Nat) : Int) from rfl, toNat_beq]; simpa using e0
          by_cases e1 : t[k] = 44
          · have q1 : ((t[k].toNat : Int) == 44) = true := by rw [e1]; rfl
            have E1 := Lib.hid e1
            clear e1
            go_wp2_with (at_builtin; refine app_own elem_strs rfl _ _ rfl w.heap.size _ _ _ rfl (hown.alloc _) ⟨wr.heap.size, 0, none⟩ 1 1 [.string (t.extract k (k + 1))] rfl rfl ?bx1 ?bx2 ?bx3 ?bx4 ?_)
            case bx1 => exact cells_one (by simp)
            case bx2 => intro u hu; simp at hu; subst hu; rfl
            case bx3 => omega
            case bx4 => have := hb.size; simp; omega
            intro v' w1 hown' hgrow
            go_wp2
            go_roundw
            case rel => exact rel_one hlt HK.out (by decide) (fun q => absurd q.1 (by decide)) (by decide) (.inr (.inr (.inl E1.out))) hl HX.out hown' ((hb.alloc hb.size _).grown hgrow (by have := hb.size; simp; omega) (fun q hq => (HO.out.lt q hq).1)) HG.out
            case measure => simp [intOf]; omega
          have q1 : ((t[k].toNat : Int) == 44) = false := by rw [show ((44 : Int)) = (((44 : UInt8).toNat : Nat) : Int) from rfl, toNat_beq]; simpa using e1
          by_cases e2 : t[k] = 37
          · have q2 : ((t[k].toNat : Int) == 37) = true := by rw [e2]; rfl
            have E2 := Lib.hid e2
            clear e2
            go_wp2_with (at_builtin; refine app_own elem_strs rfl _ _ rfl w.heap.size _ _ _ rfl (hown.alloc _) ⟨wr.heap.size, 0, none⟩ 1 1 [.string (t.extract k (k + 1))] rfl rfl ?cx1 ?cx2 ?cx3 ?cx4 ?_)
            case cx1 => exact cells_one (by simp)
            case cx2 => intro u hu; simp at hu; subst hu; rfl
            case cx3 => omega
            case cx4 => have := hb.size; simp; omega
            intro v' w1 hown' hgrow
            go_wp2
            go_roundw
            case rel => exact rel_one hlt HK.out (by decide) (fun q => absurd q.1 (by decide)) (by decide) (.inr (.inr (.inr E2.out))) hl HX.out hown' ((hb.alloc hb.size _).grown hgrow (by have := hb.size; simp; omega) (fun q hq => (HO.out.lt q hq).1)) HG.out
            case measure => simp [intOf]; omega
          have q2 : ((t[k].toNat : Int) == 37) = false := by rw [show ((37 : Int)) = (((37 : UInt8).toNat : Nat) : Int) from rfl, toNat_beq]; simpa using e2
          have hno : ¬ (t[k] = 61 ∨ t[k] = 44 ∨ t[k] = 37) := by rintro (q | q | q) <;> contradiction
          have HNO := Lib.hid hno
          clear e0 e1 e2 hno
          by_cases hk1 : k + 1 < t.size
          · by_cases p : t[k] = 33 ∧ t[k + 1] = 61
            · have x2 : t.extract k (k + 2) = ⟨#[33, 61]⟩ := by rw [ext_two t k hk1, p.1, p.2]
              have P := Lib.hid p
              have X2 := Lib.hid x2
              clear p
              go_wp2_with (at_builtin; refine app_own elem_strs rfl _ _ rfl w.heap.size _ _ _ rfl (hown.alloc _) ⟨wr.heap.size, 0, none⟩ 1 1 [.string ⟨#[33, 61]⟩] rfl rfl ?dx1 ?dx2 ?dx3 ?dx4 ?_)
              case dx1 => exact cells_one (by simp)
              case dx2 => intro u hu; simp at hu; subst hu; rfl
              case dx3 => omega
              case dx4 => have := hb.size; simp; omega
              intro v' w1 hown' hgrow
              go_wp2
              go_roundw
              case rel => exact rel_two hk1 HK.out HNO.out (.inl P.out) hl HX.out (by rw [X2.out]; exact hown') ((hb.alloc hb.size _).grown hgrow (by have := hb.size; simp; omega) (fun q hq => (HO.out.lt q hq).1)) HG.out
              case measure => simp [intOf]; omega
            by_cases p2 : t[k] = 46 ∧ t[k + 1] = 46
            · have x2 : t.extract k (k + 2) = ⟨#[46, 46]⟩ := by rw [ext_two t k hk1, p2.1, p2.2]
              have P := Lib.hid p2
              have X2 := Lib.hid x2
              clear p2
              go_wp2_with (at_builtin; refine app_own elem_strs rfl _ _ rfl w.heap.size _ _ _ rfl (hown.alloc _) ⟨wr.heap.size, 0, none⟩ 1 1 [.string ⟨#[46, 46]⟩] rfl rfl ?ex1 ?ex2 ?ex3 ?ex4 ?_)
              case ex1 => exact cells_one (by simp)
              case ex2 => intro u hu; simp at hu; subst hu; rfl
              case ex3 => omega
              case ex4 => have := hb.size; simp; omega
              intro v' w1 hown' hgrow
              go_wp2
              go_roundw
              case rel => exact rel_two hk1 HK.out HNO.out (.inr P.out) hl HX.out (by rw [X2.out]; exact hown') ((hb.alloc hb.size _).grown hgrow (by have := hb.size; simp; omega) (fun q hq => (HO.out.lt q hq).1)) HG.out
              case measure => simp [intOf]; omega
            have HP := Lib.hid p
            have HP2 := Lib.hid p2
            have x2 := ext_two t k hk1
            by_cases s1 : t[k] = 33
            · have s2 : ¬ t[k + 1] = 61 := fun q => p ⟨s1, q⟩
              have s3 : (t[k + 1] == 61) = false := by simpa using s2
              rw [s1] at x2
              clear p p2 s1
              go_wp2
              go_ret2
              refine ⟨?_, hb⟩
              rw [← HG.out, drop_cons t (k + 1) hk1, go_bad HK.out HNO.out (fun q => q.elim HP.out HP2.out)]
              exact rfl
            by_cases s4 : t[k] = 46
            · have s2 : ¬ t[k + 1] = 46 := fun q => p2 ⟨s4, q⟩
              have s3 : (t[k + 1] == 46) = false := by simpa using s2
              rw [s4] at x2
              clear p p2 s1 s4
              go_wp2
              go_ret2
              refine ⟨?_, hb⟩
              rw [← HG.out, drop_cons t (k + 1) hk1, go_bad HK.out HNO.out (fun q => q.elim HP.out HP2.out)]
              exact rfl
            have s5 : (t[k] == 33) = false := by simpa using s1
            have s6 : (t[k] == 46) = false := by simpa using s4
            clear p p2
            go_wp2
            go_ret2
            refine ⟨?_, hb⟩
            rw [← HG.out, drop_cons t (k + 1) hk1, go_bad HK.out HNO.out (fun q => q.elim HP.out HP2.out)]
            exact rfl
          · have hk2 : k + 1 = t.size := by omega
            have hk1i : decide ((k : Int) + 1 < (t.size : Int)) = false := by simp; omega
            have HK2 := Lib.hid hk2
            clear hk2
            go_wp2
            go_ret2
            have hz : t.data.toList.drop (k + 1) = [] := List.drop_of_length_le (by rw [size_toList]; have := HK2.out; omega)
            refine ⟨?_, hb⟩
            rw [← HG.out, hz, go_bad1 HK.out HNO.out]
            exact rfl
        · have k0' : decide ((0 : Int) < (kd : Int)) = true := by simp; omega
          by_cases kl : kd = last
          · have kl' : ((kd : Int) == (last : Int)) = true := by simp [kl]
            have hpos : 0 < acc.length := List.length_pos_iff.2 (HNE.out (by omega))
            obtain ⟨m, hm⟩ : ∃ m, acc.length = m + 1 := ⟨acc.length - 1, by omega⟩
            obtain ⟨g, cap, rfl, hg0, hg1, hc⟩ := own_some hown hpos
            have hcx : wr.cell? ⟨g, m, none⟩ = some (strv (acc.getD m [])) := by
              rw [hc m (by omega)]
              simp [List.getD_eq_getElem?_getD, List.getElem?_eq_getElem (show m < acc.length by omega)]
            have hfx : wr.frozen? ⟨g, m, none⟩ = false := by
              rcases hown.2 with ⟨hv, _⟩ | ⟨g2, cap2, cur, hv, _, hh, _⟩
              · cases hv
              · cases hv; exact Lib.frozen_of_heap hh m
            have hxl : (acc.getD m []).length ≤ k := by
              refine HX.out _ ?_
              rw [List.getD_eq_getElem?_getD, List.getElem?_eq_getElem (show m < acc.length by omega)]
              exact List.getElem_mem _
            obtain ⟨lw, hlw⟩ : ∃ x, x = acc.getD m [] := ⟨_, rfl⟩
            rw [← hlw] at hcx hxl
            have HLW := Lib.hid hlw
            have HO := Lib.hid hown
            have HM := Lib.hid hm
            subst kl
            have hmk : m + 1 ≤ k := by omega
            rw [hm]
            clear hlw hown hm hc hl hpos
            go_wp2_with fail
            have b1 : IntKind.i64.wrap (m : Int) = (m : Int) := IntWalk.i64_in _ (by omega)
            have b6 : m < m + 1 := by omega
            have b8 : (k : Int) + 1 ≤ (t.size : Int) := by omega
            have b9 : (k : Int) ≤ (k : Int) + 1 := by omega
            have b10 : (0 : Int) ≤ (k : Int) + 1 := by omega
            have b11 : k + 1 ≤ t.size := by omega
            have b12 : (0 : Int) ≤ (k : Int) := by omega
            have b13 : (9223372036854775807 < lw.length + 1) = False := eq_false (by omega)
            have b7 : (m : Int) < (m : Int) + 1 := by omega
            have b2 : (0 : Int) ≤ (m : Int) := by omega
            have b3 : ((m : Int)).toNat = m := by omega
            have b4 : IntKind.i64.wrap ((k : Int) + 1) = (k : Int) + 1 := IntWalk.i64_in _ (by omega)
            have b5 : ((k : Int) + 1).toNat = k + 1 := by omega
            go_still_tail 17, (by kernel_rfl)
            go_wp2
            exact ⟨rel_join hlt HK.out k3 k0 hk3 HM.out hmk HLW.out HX.out HO.out hg0 hb HG.out, by simp [intOf]; omega⟩
          · have kl' : ((kd : Int) == (last : Int)) = false := by simp; omega
            have KL := Lib.hid kl
            have HO := Lib.hid hown
            have k0i : (0 : Int) < (kd : Int) := by omega
            clear kl
            go_wp2_with (at_builtin; refine app_own elem_strs rfl _ _ rfl w.heap.size _ _ _ rfl (hown.alloc _) ⟨wr.heap.size, 0, none⟩ 1 1 [.string (t.extract k (k + 1))] rfl rfl ?c1 ?c2 ?c3 ?c4 ?_)
            case c1 => exact cells_one (by simp)
            case c2 => intro u hu; simp at hu; subst hu; rfl
            case c3 => omega
            case c4 => have := hb.size; simp; omega
            intro v' w1 hown' hgrow
            go_wp2
            go_roundw
            case rel => exact rel_one hlt HK.out k3 (fun q => KL.out q.2) hk3 (.inl (by omega)) hl HX.out hown' ((hb.alloc hb.size _).grown hgrow (by have := hb.size; simp; omega) (fun q hq => (HO.out.lt q hq).1)) HG.out
            case measure => simp [intOf]; omega
    · go_wp2
      go_ret2
      have hz : t.data.toList.drop k = [] := List.drop_of_length_le (by simp; omega)
      rw [hz] at hgo
      refine ⟨?_, hb⟩
      rw [← hgo]
      exact ⟨_, rfl, hown⟩
end Go.Proofs.YtpepgmccbkkaaaaGreatDoor

/- The document's rules: lists of words, parted at a word. -/
namespace Go.Proofs.YtpepgmccbkkaaaaGreatDoor
open Go Go.RowKit
set_option maxRecDepth 10000

theorem toList_at (s : ByteArray) : s.toList = s.data.toList := by
  exact Go.ByteArray.toList_eq s

/-- words parted at a word; 'cur': what has been met of the part at hand -/
def partsGo (m : List UInt8) : List (List UInt8) → List (List UInt8) → List (List (List UInt8))
  | cur, [] => [cur]
  | cur, x :: t => if x = m then cur :: partsGo m [] t else partsGo m (cur ++ [x]) t
def partsL (m : List UInt8) (l : List (List UInt8)) : List (List (List UInt8)) := partsGo m [] l

theorem elem_rows : Elem Tryz.prog 147 35 (.slice none 0 0) 1 24 :=
  ⟨Tryz.underlying147, info_parts (by kernel_rfl), rfl, by decide, by decide⟩

/-- a list of lists of texts, a row of the call's own; what is parted lies in an elder world -/
def PartsAt (w0 w : World) (base : Nat) (v : Value) (ps : List (List (List UInt8))) : Prop :=
  ∃ vs : List Value, w.ownsRow base 35 1 v ps.length vs ∧ ∀ j (h : j < ps.length), ∃ u, vs[j]? = some u ∧ StrsAt w0 u ps[j]

theorem add_add (a : Addr) (i j : Nat) : (a.add i).add j = a.add (i + j) := by
  unfold Addr.add
  by_cases hi : i = 0
  · subst hi; simp
  · by_cases hj : j = 0
    · subst hj; simp
    · simp [hi, hj, Nat.add_assoc]

/-- a piece of a list of texts -/
theorem StrsAt.piece {w : World} {a : Addr} {n cap : Nat} {ws : List (List UInt8)} (hn : ws.length = n) (hc : n ≤ cap) (hm : cap ≤ maxLen) (hcell : ∀ j (h : j < ws.length), w.cell? (a.add j) = some (strv ws[j])) (f i : Nat) (hf : f ≤ i) (hi : i ≤ n) :
    StrsAt w (.slice (some (a.add f)) (i - f) (cap - f)) ((ws.take i).drop f) := by
  have hl : ((ws.take i).drop f).length = i - f := by simp; omega
  refine ⟨some (a.add f), cap - f, by rw [hl], by omega, by omega, (fun h => by cases h), fun j hj => ⟨_, rfl, ?_⟩⟩
  rw [hl] at hj
  rw [add_add, hcell (f + j) (by omega)]
  simp

/-- the loop's relation -/
def PartsRel (m : List UInt8) (n : Nat) (ws : List (List UInt8)) (w : World) (v f i : Value) (wr : World) : Prop :=
  ∃ (k fr : Nat) (acc : List (List (List UInt8))), k ≤ n + 1 ∧ fr ≤ k ∧ i = .int .i64 k ∧ f = .int .i64 fr ∧ PartsAt w wr w.heap.size v acc ∧ Below w.heap.size w wr ∧ acc.length ≤ k ∧
    partsL m ws = (if k ≤ n then acc ++ partsGo m ((ws.take k).drop fr) (ws.drop k) else acc)

theorem PartsAt.more {w wr w1 : World} {base : Nat} {v v' : Value} {acc : List (List (List UInt8))} {vs : List Value} {u : Value} {p : List (List UInt8)} (hl : vs.length = acc.length)
    (hp : ∀ j (h : j < acc.length), ∃ u, vs[j]? = some u ∧ StrsAt w u acc[j]) (ho : w1.ownsRow base 35 1 v' (acc.length + 1) (vs ++ [u])) (hu : StrsAt w u p) : PartsAt w w1 base v' (acc ++ [p]) := by
  refine ⟨vs ++ [u], by simpa using ho, fun j h => ?_⟩
  by_cases hj : j < acc.length
  · obtain ⟨x, hx, hs⟩ := hp j hj
    exact ⟨x, by rw [List.getElem?_append_left (by omega)]; exact hx, by rw [List.getElem_append_left hj]; exact hs⟩
  · have e : j = acc.length := by simp at h; omega
    subst e
    refine ⟨u, by rw [List.getElem?_append_right (by omega), hl]; simp, ?_⟩
    rw [List.getElem_append_right (by omega)]
    simpa using hu

theorem rel_cut {m : List UInt8} {n k fr : Nat} {ws : List (List UInt8)} {w w1 : World} {v' u : Value} {acc : List (List (List UInt8))} {vs : List Value} (hn : n = ws.length) (hlt : k < n) (hf : fr ≤ k) (hq : ws[k] = m) (hl : vs.length = acc.length) (hk : acc.length ≤ k)
    (hp : ∀ j (h : j < acc.length), ∃ u, vs[j]? = some u ∧ StrsAt w u acc[j]) (ho : w1.ownsRow w.heap.size 35 1 v' (acc.length + 1) (vs ++ [u])) (hu : StrsAt w u ((ws.take k).drop fr))
    (hb : Below w.heap.size w w1) (hG : partsL m ws = (if k ≤ n then acc ++ partsGo m ((ws.take k).drop fr) (ws.drop k) else acc)) :
    PartsRel m n ws w v' (.int .i64 ((k : Int) + 1)) (.int .i64 ((k : Int) + 1)) w1 := by
  refine ⟨k + 1, k + 1, acc ++ [(ws.take k).drop fr], by omega, by omega, by go_num, by go_num, PartsAt.more (wr := w) (v := v') hl hp ho hu, hb, by simp; omega, ?_⟩
  rw [if_pos (by omega)] at hG
  rw [if_pos (by omega), hG, List.drop_eq_getElem_cons (by omega : k < ws.length)]
  have e : ((ws.take (k + 1)).drop (k + 1)) = [] := List.drop_of_length_le (by simp; omega)
  rw [e, partsGo, if_pos hq]
  simp

theorem rel_on {m : List UInt8} {n k fr : Nat} {ws : List (List UInt8)} {w w1 : World} {v : Value} {acc : List (List (List UInt8))} (hn : n = ws.length) (hlt : k < n) (hf : fr ≤ k) (hq : ¬ ws[k] = m) (hk : acc.length ≤ k)
    (hp : PartsAt w w1 w.heap.size v acc) (hb : Below w.heap.size w w1) (hG : partsL m ws = (if k ≤ n then acc ++ partsGo m ((ws.take k).drop fr) (ws.drop k) else acc)) :
    PartsRel m n ws w v (.int .i64 fr) (.int .i64 ((k : Int) + 1)) w1 := by
  refine ⟨k + 1, fr, acc, by omega, by omega, by go_num, rfl, hp, hb, by omega, ?_⟩
  rw [if_pos (by omega)] at hG
  have e : (ws.take (k + 1)).drop fr = (ws.take k).drop fr ++ [ws[k]] := by
    rw [List.take_succ_eq_append_getElem (by omega), List.drop_append_of_le_length (by simp; omega)]
  rw [if_pos (by omega), hG, List.drop_eq_getElem_cons (by omega : k < ws.length), partsGo, if_neg hq, e]

theorem rel_end {m : List UInt8} {n k fr : Nat} {ws : List (List UInt8)} {w w1 : World} {v' u : Value} {acc : List (List (List UInt8))} {vs : List Value} (hn : n = ws.length) (hkn : k = n) (hl : vs.length = acc.length) (hk : acc.length ≤ k)
    (hp : ∀ j (h : j < acc.length), ∃ u, vs[j]? = some u ∧ StrsAt w u acc[j]) (ho : w1.ownsRow w.heap.size 35 1 v' (acc.length + 1) (vs ++ [u])) (hu : StrsAt w u ((ws.take k).drop fr))
    (hb : Below w.heap.size w w1) (hG : partsL m ws = (if k ≤ n then acc ++ partsGo m ((ws.take k).drop fr) (ws.drop k) else acc)) :
    PartsRel m n ws w v' (.int .i64 ((k : Int) + 1)) (.int .i64 ((k : Int) + 1)) w1 := by
  refine ⟨k + 1, k + 1, acc ++ [(ws.take k).drop fr], by omega, by omega, by go_num, by go_num, PartsAt.more (wr := w) (v := v') hl hp ho hu, hb, by simp; omega, ?_⟩
  rw [if_pos (by omega)] at hG
  rw [if_neg (by omega), hG, List.drop_of_length_le (by omega : ws.length ≤ k), partsGo]

set_option maxHeartbeats 4000000 in
theorem parts_some (m : ByteArray) (a : Addr) (cap : Nat) (ws : List (List UInt8)) (w : World) (hc : ws.length ≤ cap) (hm : cap ≤ maxLen) (hw : ws.length ≤ 1000000) (hcell : ∀ j (h : j < ws.length), w.cell? (a.add j) = some (strv ws[j])) :
    Calls Tryz.prog 65 #[.slice (some a) ws.length cap, .string m] w fun e w' => (∃ v, e = .returned v ∧ PartsAt w w' w.heap.size v (partsL m.data.toList ws)) ∧ Below w.heap.size w w' := by
  have HC := Lib.hid hcell
  clear hcell
  obtain ⟨n, hn⟩ : ∃ n, n = ws.length := ⟨_, rfl⟩
  rw [← hn] at hc hw ⊢
  have HN := Lib.hid hn
  clear hn
  go_enter Tryz.func65, Tryz.ntmps65
  go_wp2
  go_loopw [5, 6, 7] (fun v f i wr => PartsRel m.data.toList n ws w v f i wr) (fun _ _ i _ => n + 1 - (intOf i).toNat)
  case atStart => exact ⟨0, 0, [], by omega, by omega, rfl, rfl, ⟨[], World.ownsRow_nil _ _ _ _, fun j h => absurd h (Nat.not_lt_zero j)⟩, Below.refl _ _, by simp, by rw [if_pos (Nat.zero_le _)]; simp [partsL]⟩
  case round =>
    obtain ⟨k, fr, acc, hk, hf, rfl, rfl, hp, hb, hl, hgo⟩ := hrel
    have HG := Lib.hid hgo
    have HP := Lib.hid hp
    clear hgo hp
    by_cases hlt : k < n
    · have hx := HC.out k (by rw [← HN.out]; exact hlt)
      have hx2 : wr.cell? (a.add k) = some (strv ws[k]) := by rw [hb.cell (World.block_lt_of_cell? w _ hx)]; exact hx
      have hne : ((k : Int) == (n : Int)) = false := by simp; omega
      clear hx
      have hu := StrsAt.piece (f := fr) (i := k) HN.out.symm hc hm HC.out hf (by omega)
      have HU := Lib.hid hu
      clear hu
      by_cases hq : ws[k] = m.data.toList
      · have hq' : (ws[k] == m.toList) = true := by rw [toList_at, hq]; simp
        obtain ⟨vs, hown, hpc⟩ := HP.out
        have HQ := Lib.hid hq
        have HO := Lib.hid hown
        have HPC := Lib.hid hpc
        clear hq hpc
        go_wp2_with (at_builtin; refine app_own elem_rows rfl _ _ rfl w.heap.size _ _ _ rfl (hown.alloc _) ⟨wr.heap.size, 0, none⟩ 1 1 [.slice (some (a.add fr)) (k - fr) (cap - fr)] rfl rfl ?c1 ?c2 ?c3 ?c4 ?_)
        case c1 => exact cells_one (cell_made _ _ _ _ _)
        case c2 => intro u hu; simp at hu; subst hu; rfl
        case c3 => omega
        case c4 => have := hb.size; simp; omega
        intro v' w1 hown' hgrow
        go_wp2
        go_roundw
        case rel => exact rel_cut HN.out hlt hf HQ.out (by have := HO.out.1; omega) hl HPC.out hown' HU.out ((hb.alloc hb.size _).grown hgrow (by have := hb.size; simp; omega) (fun q hq => (HO.out.lt q hq).1)) HG.out
        case measure => simp [intOf]; omega
      · have hq' : (ws[k] == m.toList) = false := by rw [toList_at]; simpa using hq
        have HQ := Lib.hid hq
        clear hq
        go_wp2
        go_roundw
        case rel => exact rel_on HN.out hlt hf HQ.out hl HP.out hb HG.out
        case measure => simp [intOf]; omega
    · by_cases hkn : k = n
      · have hne : ((k : Int) == (n : Int)) = true := by simp [hkn]
        have hle : decide ((k : Int) ≤ (n : Int)) = true := by simp [hkn]
        have hkn2 : k ≤ n := by omega
        have hu := StrsAt.piece (f := fr) (i := k) HN.out.symm hc hm HC.out hf (by omega)
        have HU := Lib.hid hu
        obtain ⟨vs, hown, hpc⟩ := HP.out
        have HKN := Lib.hid hkn
        have HO := Lib.hid hown
        have HPC := Lib.hid hpc
        by_cases hfc : cap = fr
        · have hkf : k = fr := by omega
          have hu2 : StrsAt w (.slice (some a) 0 0) ((ws.take k).drop fr) := by
            have e : (ws.take k).drop fr = [] := List.drop_of_length_le (by simp; omega)
            rw [e]
            exact ⟨some a, 0, rfl, Nat.le_refl _, Nat.zero_le _, fun _ => rfl, fun j h => absurd h (Nat.not_lt_zero j)⟩
          have HU2 := Lib.hid hu2
          have hcc : cap = k := by omega
          clear hkn hpc hu hu2
          subst hfc
          subst hkf
          go_wp2_with (at_builtin; refine app_own elem_rows rfl _ _ rfl w.heap.size _ _ _ rfl (hown.alloc _) ⟨wr.heap.size, 0, none⟩ 1 1 [(.slice (some a) 0 0)] rfl rfl ?d1 ?d2 ?d3 ?d4 ?_)
          case d2 => rfl
          case d3 => omega
          case d4 => have := hb.size; simp; omega
          intro v' w1 hown' hgrow
          go_wp2
          go_roundw
          case rel => exact rel_end HN.out HKN.out (by have := HO.out.1; omega) hl HPC.out hown' HU2.out ((hb.alloc hb.size _).grown hgrow (by have := hb.size; simp; omega) (fun q hq => (HO.out.lt q hq).1)) HG.out
          case measure => simp [intOf]; omega
        · clear hkn hpc hu
          have hfc2 : ¬ (cap : Int) = (fr : Int) := by omega
          have hfc3 : ¬ fr = cap := fun q => hfc q.symm
          go_wp2_with (at_builtin; refine app_own elem_rows rfl _ _ rfl w.heap.size _ _ _ rfl (hown.alloc _) ⟨wr.heap.size, 0, none⟩ 1 1 [(.slice (some (a.add fr)) (k - fr) (cap - fr))] rfl rfl ?e1 ?e2 ?e3 ?e4 ?_)
          case e1 => exact cells_one (cell_made _ _ _ _ _)
          case e2 => intro u hu; simp at hu; subst hu; rfl
          case e3 => omega
          case e4 => have := hb.size; simp; omega
          intro v' w1 hown' hgrow
          go_wp2
          go_roundw
          case rel => exact rel_end HN.out HKN.out (by have := HO.out.1; omega) hl HPC.out hown' HU.out ((hb.alloc hb.size _).grown hgrow (by have := hb.size; simp; omega) (fun q hq => (HO.out.lt q hq).1)) HG.out
          case measure => simp [intOf]; omega
      · have hgt : ¬ k ≤ n := by omega
        have hle : decide ((k : Int) ≤ (n : Int)) = false := by simp; omega
        have hgo := HG.out
        rw [if_neg hgt] at hgo
        have HGO := Lib.hid hgo
        clear hgo
        go_wp2
        go_ret
        exact ⟨⟨_, rfl, by rw [HGO.out]; exact HP.out⟩, hb⟩

set_option maxHeartbeats 1000000 in
theorem parts_nil (m : ByteArray) (w : World) :
    Calls Tryz.prog 65 #[.slice none 0 0, .string m] w fun e w' => (∃ v, e = .returned v ∧ PartsAt w w' w.heap.size v (partsL m.data.toList [])) ∧ Below w.heap.size w w' := by
  go_enter Tryz.func65, Tryz.ntmps65
  go_wp2
  refine wp_loop_rounds 2 ?_
  rw [rounds_succ]
  go_wp2_with (at_builtin; refine app_own elem_rows rfl _ _ rfl w.heap.size _ _ _ rfl (World.ownsRow_nil _ _ _ _) ⟨w.heap.size, 0, none⟩ 1 1 [.slice none 0 0] rfl rfl ?c1 ?c2 ?c3 ?c4 ?_)
  case c1 => exact cells_one (cell_made _ _ _ _ _)
  case c2 => intro u hu; simp at hu; subst hu; rfl
  case c3 => decide
  case c4 => simp
  intro v' w1 hown hgrow
  have hb : Below w.heap.size w w1 := ((Below.refl _ _).alloc (Nat.le_refl _) _).grown hgrow (by simp) (fun q hq => by cases hq)
  clear hgrow
  go_wp2
  rw [rounds_succ]
  go_wp2
  go_ret
  refine ⟨⟨_, rfl, [.slice none 0 0], hown, fun j h => ?_⟩, hb⟩
  have e : j = 0 := by simp [partsL, partsGo] at h; omega
  subst e
  exact ⟨_, rfl, none, 0, rfl, Nat.le_refl _, Nat.zero_le _, fun _ => rfl, fun j h => absurd h (Nat.not_lt_zero j)⟩

/-- a list of texts, parted at a word -/
theorem parts_any (m : ByteArray) (v : Value) (ws : List (List UInt8)) (w : World) (h : StrsAt w v ws) (hw : ws.length ≤ 1000000) :
    Calls Tryz.prog 65 #[v, .string m] w fun e w' => (∃ v, e = .returned v ∧ PartsAt w w' w.heap.size v (partsL m.data.toList ws)) ∧ Below w.heap.size w w' := by
  obtain ⟨a, cap, rfl, hl, hm, h0, hc⟩ := h
  cases a with
  | none =>
    have hz := h0 rfl
    subst hz
    have : ws = [] := List.eq_nil_of_length_eq_zero (by omega)
    subst this
    exact parts_nil m w
  | some a =>
    refine parts_some m a cap ws w hl hm hw (fun j hj => ?_)
    obtain ⟨b, hb1, hb2⟩ := hc j hj
    cases hb1
    exact hb2
end Go.Proofs.YtpepgmccbkkaaaaGreatDoor

/- The document's rules: whole numbers compared; noughts ahead struck; what is left by a modulus. -/
namespace Go.Proofs.YtpepgmccbkkaaaaGreatDoor
open Go Go.RowKit
set_option maxRecDepth 10000

/-- whole numbers' digits compared -/
def cmpL (a b : List UInt8) : Int := if a.length < b.length ∨ (a.length = b.length ∧ Op.bytesLess a b = true) then -1 else if a = b then 0 else 1

set_option maxHeartbeats 1000000 in
theorem compared_any (a b : ByteArray) (w : World) (ha : a.size ≤ 1000000) (hb : b.size ≤ 1000000) :
    Calls Tryz.prog 104 #[.string a, .string b] w fun e w' => e = .returned (.int .i64 (cmpL a.data.toList b.data.toList)) ∧ w = w' := by
  have hA := toList_at a
  have hB := toList_at b
  obtain ⟨r, hr⟩ : ∃ r, cmpL a.data.toList b.data.toList = r := ⟨_, rfl⟩
  rw [hr]
  have HR := Lib.hid hr
  unfold cmpL at hr
  rw [size_toList, size_toList] at hr
  by_cases h1 : a.size < b.size
  · rw [if_pos (.inl h1)] at hr
    have h1' : decide ((a.size : Int) < (b.size : Int)) = true := by simp; omega
    have HF := Lib.hid hr
    clear hr hA hB
    go_enter Tryz.func104, Tryz.ntmps104
    go_wp2
    all_goals (first | (exfalso; omega) | (go_ret; exact ⟨by rw [← HF.out]; rfl, rfl⟩))
  · have h1' : decide ((a.size : Int) < (b.size : Int)) = false := by simp; omega
    by_cases h2 : a.size = b.size
    · have h2' : ((a.size : Int) == (b.size : Int)) = true := by simp; omega
      cases h3 : Op.bytesLess a.data.toList b.data.toList
      · rw [if_neg (by rintro (q | q)
                       · exact h1 q
                       · rw [h3] at q; cases q.2)] at hr
        rw [← hA, ← hB] at h3
        by_cases h4 : a.data.toList = b.data.toList
        · rw [if_pos h4] at hr
          have h4' : (a.toList == b.toList) = true := by rw [hA, hB, h4]; simp
          have HF := Lib.hid hr
          clear hr hA hB h4 h2
          go_enter Tryz.func104, Tryz.ntmps104
          go_wp2
          all_goals (first | (exfalso; omega) | (go_ret; exact ⟨by rw [← HF.out]; rfl, rfl⟩))
        · rw [if_neg h4] at hr
          have h4' : (a.toList == b.toList) = false := by rw [hA, hB]; simpa using h4
          have HF := Lib.hid hr
          clear hr hA hB h4 h2
          go_enter Tryz.func104, Tryz.ntmps104
          go_wp2
          all_goals (first | (exfalso; omega) | (go_ret; exact ⟨by rw [← HF.out]; rfl, rfl⟩))
      · rw [if_pos (.inr ⟨h2, h3⟩)] at hr
        rw [← hA, ← hB] at h3
        have HF := Lib.hid hr
        clear hr hA hB h2
        go_enter Tryz.func104, Tryz.ntmps104
        go_wp2
        all_goals (first | (exfalso; omega) | (go_ret; exact ⟨by rw [← HF.out]; rfl, rfl⟩))
    · have h2' : ((a.size : Int) == (b.size : Int)) = false := by simp; omega
      have h4 : ¬ a.data.toList = b.data.toList := fun q => h2 (by have := congrArg List.length q; simpa using this)
      rw [if_neg (by rintro (q | q)
                     · exact h1 q
                     · exact h2 q.1), if_neg h4] at hr
      have h4' : (a.toList == b.toList) = false := by rw [hA, hB]; simpa using h4
      have HF := Lib.hid hr
      clear hr hA hB h4
      go_enter Tryz.func104, Tryz.ntmps104
      go_wp2
      all_goals (first | (exfalso; omega) | (go_ret; exact ⟨by rw [← HF.out]; rfl, rfl⟩))
end Go.Proofs.YtpepgmccbkkaaaaGreatDoor

/- The document's rules: noughts ahead struck; what is left by a modulus. -/
namespace Go.Proofs.YtpepgmccbkkaaaaGreatDoor
open Go Go.RowKit
set_option maxRecDepth 10000

/-- what is left of digits by a modulus -/
def leftL (l : List UInt8) (m : Nat) : Nat := l.foldl (fun r c => (10 * r + (c.toNat - 48)) % m) 0

theorem leftL_snoc (l : List UInt8) (c : UInt8) (m : Nat) : leftL (l ++ [c]) m = (10 * leftL l m + (c.toNat - 48)) % m := by simp [leftL]

theorem leftL_lt (l : List UInt8) (m : Nat) (hm : 0 < m) : leftL l m < m := by
  by_cases h : l = []
  · subst h; exact hm
  · obtain ⟨t, c, rfl⟩ : ∃ t c, l = t ++ [c] := ⟨l.dropLast, l.getLast h, by rw [List.dropLast_concat_getLast]⟩
    rw [leftL_snoc]
    exact Nat.mod_lt _ hm

theorem leftL_val (l : List UInt8) (m : Nat) : leftL l m % m = valL l % m := by
  induction hn : l.length generalizing l with
  | zero => have := List.eq_nil_of_length_eq_zero hn; subst this; rfl
  | succ n ih =>
    have h : l ≠ [] := fun q => by rw [q] at hn; cases hn
    obtain ⟨t, c, rfl⟩ : ∃ t c, l = t ++ [c] := ⟨l.dropLast, l.getLast h, by rw [List.dropLast_concat_getLast]⟩
    have ht := ih t (by simpa using hn)
    rw [leftL_snoc, valL_snoc, Nat.mod_mod, Nat.add_mod, Nat.mul_mod, ht, ← Nat.mul_mod, ← Nat.add_mod]

theorem mod_less (x y m : Nat) (h : y ≤ x) (hy : y % m = 0) : (x - y) % m = x % m := by
  obtain ⟨k, rfl⟩ : ∃ k, x = y + k := ⟨x - y, by omega⟩
  rw [Nat.add_sub_cancel_left, Nat.add_mod, hy, Nat.zero_add, Nat.mod_mod]

set_option maxHeartbeats 2000000 in
theorem left_any (s : ByteArray) (m : Nat) (w : World) (hs : s.size ≤ 1000000) (hd : s.data.toList.all isDig = true) (hm0 : 0 < m) (hm : m ≤ 1000000000) :
    Calls Tryz.prog 83 #[.string s, .int .i64 m] w fun e w' => e = .returned (.int .i64 (leftL s.data.toList m)) ∧ w = w' := by
  go_enter Tryz.func83, Tryz.ntmps83
  go_wp2
  go_loop [5, 6, 7] (fun r i _ => ∃ k : Nat, k ≤ s.size ∧ i = .int .i64 k ∧ r = .int .i64 (leftL (s.data.toList.take k) m)) (fun _ i _ => s.size - (intOf i).toNat)
  case atStart => exact ⟨0, by omega, rfl, rfl⟩
  case round =>
    obtain ⟨k, hk, rfl, rfl⟩ := hrel
    have hv := leftL_lt (s.data.toList.take k) m hm0
    by_cases hlt : k < s.size
    · have hc := (isDig_iff _).1 (all_dig_at hd k hlt)
      have hsn : leftL (s.data.toList.take (k + 1)) m = (10 * leftL (s.data.toList.take k) m + (s[k].toNat - 48)) % m := by rw [take_snoc s k hlt, leftL_snoc]
      have HS := Lib.hid hsn
      clear hsn
      obtain ⟨x, hx⟩ : ∃ x, x = leftL (s.data.toList.take k) m := ⟨_, rfl⟩
      rw [← hx] at hv HS ⊢
      clear hx
      obtain ⟨R, hR⟩ : ∃ R : Nat, (x : Int) * 10 + ((s[k].toNat : Int) - 48) = (R : Int) := ⟨x * 10 + (s[k].toNat - 48), by omega⟩
      have hR2 : R = 10 * x + (s[k].toNat - 48) := by omega
      rw [← hR2] at HS
      have hRb : R < 10000000010 := by omega
      have HR := Lib.hid hR
      clear hR2
      go_wp2
      go_loop [5, 7] (fun r _ => ∃ y : Nat, r = .int .i64 y ∧ y ≤ R ∧ y % m = R % m) (fun r _ => (intOf r).toNat)
      case atStart => exact ⟨R, by first | rfl | (congr 1; done) | (congr 1; have := HR.out; omega), Nat.le_refl _, rfl⟩
      case round =>
        obtain ⟨y, rfl, hy, hym⟩ := hrel
        have HYM := Lib.hid hym
        clear hym
        by_cases hge : m ≤ y
        · go_wp2
          go_loop [7] (fun q => ∃ z : Nat, q = .int .i64 z ∧ m ≤ z ∧ z ≤ y ∧ z % m = 0) (fun q => y - (intOf q).toNat)
          case atStart => exact ⟨m, rfl, Nat.le_refl _, hge, Nat.mod_self m⟩
          case round =>
            obtain ⟨z, rfl, hz1, hz2, hzm⟩ := hrel
            have HZM := Lib.hid hzm
            clear hzm
            by_cases h2 : z * 2 ≤ y
            · have h2i : (z : Int) * 2 ≤ (y : Int) := by omega
              go_wp2
              go_round
              case rel => exact ⟨z * 2, by go_num, by omega, h2, by rw [Nat.mul_mod, HZM.out]; simp⟩
              case measure => simp [intOf]; omega
            · have h2i : ¬ (z : Int) * 2 ≤ (y : Int) := by omega
              go_wp2
              go_round
              case rel => exact ⟨y - z, by (congr 1; omega), by omega, by rw [mod_less y z m hz2 HZM.out, HYM.out]⟩
              case measure => simp [intOf]; omega
        · have hfin : leftL (s.data.toList.take (k + 1)) m = y := by rw [HS.out, ← HYM.out]; exact Nat.mod_eq_of_lt (by omega)
          have HF := Lib.hid hfin
          clear hfin
          go_wp2
          go_round
          case rel => exact ⟨k + 1, by omega, by go_num, by rw [HF.out]⟩
          case measure => simp [intOf]; omega
    · obtain rfl : k = s.size := by omega
      go_wp2
      go_ret
      rw [take_all]
      exact ⟨rfl, rfl⟩

/-- digits without noughts ahead -/
def stripL : List UInt8 → List UInt8
  | c :: d :: t => if c = 48 then stripL (d :: t) else c :: d :: t
  | l => l
/-- .. of none: 0 -/
def plainL (l : List UInt8) : List UInt8 := if l = [] then [48] else stripL l

theorem strip_step {c : UInt8} {l : List UInt8} (h : l ≠ []) (hc : c = 48) : stripL (c :: l) = stripL l := by
  cases l with
  | nil => exact absurd rfl h
  | cons d t => rw [stripL, if_pos hc]
theorem strip_keep {c : UInt8} {l : List UInt8} (hc : ¬ c = 48) : stripL (c :: l) = c :: l := by
  cases l with
  | nil => rfl
  | cons d t => rw [stripL, if_neg hc]

set_option maxHeartbeats 1000000 in
theorem plain_any (s : ByteArray) (w : World) (hs : s.size ≤ 1000000) : Calls Tryz.prog 103 #[.string s] w fun e w' => e = .returned (strv (plainL s.data.toList)) ∧ w = w' := by
  obtain ⟨r, hr⟩ : ∃ r, plainL s.data.toList = r := ⟨_, rfl⟩
  rw [hr]
  have HR := Lib.hid hr
  clear hr
  go_enter Tryz.func103, Tryz.ntmps103
  go_wp2
  go_loop [0] (fun v => ∃ t : ByteArray, v = .string t ∧ t.size ≤ 1000000 ∧ plainL t.data.toList = r) (fun v => match v with | .string t => t.size | _ => 0)
  case atStart => exact ⟨s, rfl, hs, HR.out⟩
  case round =>
    obtain ⟨t, rfl, ht, hp⟩ := hrel
    have HP := Lib.hid hp
    clear hp
    by_cases h1 : 1 < t.size
    · have h0 : 0 < t.size := by omega
      have hl : t.data.toList = t[0] :: t.data.toList.drop 1 := by have := drop_cons t 0 h0; rwa [List.drop_zero] at this
      have HL := Lib.hid hl
      clear hl
      by_cases hc : t[0] = 48
      · have hc' : ((t[0].toNat : Int) == 48) = true := by rw [hc]; rfl
        have HC := Lib.hid hc
        clear hc
        have hx : (t.extract 1 t.size).size = t.size - 1 := by simp
        have hne : t.data.toList.drop 1 ≠ [] := by intro q; have := congrArg List.length q; simp at this; omega
        have hfin : plainL (t.extract 1 t.size).data.toList = r := by
          have e : stripL t.data.toList = stripL (t.data.toList.drop 1) := (congrArg stripL HL.out).trans (strip_step hne HC.out)
          rw [extract_drop, toList_mk, ← HP.out]
          unfold plainL
          rw [if_neg hne, if_neg (by rw [HL.out]; simp), e]
        have HF := Lib.hid hfin
        have HX := Lib.hid hx
        clear hfin hx hne
        go_wp2
        exact ⟨⟨_, rfl, by rw [HX.out]; omega, HF.out⟩, by show (t.extract 1 t.size).size < t.size; rw [HX.out]; omega⟩
      · have hc' : ((t[0].toNat : Int) == 48) = false := by rw [show ((48 : Int)) = (((48 : UInt8).toNat : Nat) : Int) from rfl, toNat_beq]; simpa using hc
        have hne : (!t.toList.isEmpty) = true := by rw [toList_at, HL.out]; rfl
        have hne2 : t.toList.isEmpty = false := by rw [toList_at, HL.out]; rfl
        have hfin : strv r = .string t := by
          rw [← HP.out]
          unfold plainL
          rw [if_neg (by rw [HL.out]; simp), HL.out, strip_keep hc, ← HL.out]
        have HF := Lib.hid hfin
        clear hc hfin
        go_wp2
        go_ret
        exact ⟨by rw [HF.out]; rfl, rfl⟩
    · by_cases h0 : t.size = 0
      · have hl : t.data.toList = [] := List.eq_nil_of_length_eq_zero (by rw [size_toList]; exact h0)
        have hne : (!t.toList.isEmpty) = false := by rw [toList_at, hl]; rfl
        have hne2 : t.toList.isEmpty = true := by rw [toList_at, hl]; rfl
        have hfin : r = [48] := by rw [← HP.out, hl]; rfl
        have HF := Lib.hid hfin
        clear hl hfin
        go_wp2
        go_ret
        exact ⟨by rw [HF.out]; rfl, rfl⟩
      · have h00 : 0 < t.size := by omega
        have hl : t.data.toList = [t[0]] := by
          have := drop_cons t 0 h00
          rw [List.drop_zero] at this
          rw [this, List.drop_of_length_le (by rw [size_toList]; omega)]
        have hne : (!t.toList.isEmpty) = true := by rw [toList_at, hl]; rfl
        have hne2 : t.toList.isEmpty = false := by rw [toList_at, hl]; rfl
        have hfin : strv r = .string t := by
          rw [← HP.out, ← show ByteArray.mk t.data.toList.toArray = t from mk_toList t, toList_mk]
          rw [hl]
          rfl
        have HF := Lib.hid hfin
        clear hl hfin
        go_wp2
        go_ret
        exact ⟨by rw [HF.out]; rfl, rfl⟩
end Go.Proofs.YtpepgmccbkkaaaaGreatDoor

/- The document's rules: what an operand takes of a number. -/
namespace Go.Proofs.YtpepgmccbkkaaaaGreatDoor
open Go Go.RowKit
set_option maxRecDepth 10000

/-- digits without noughts at their end -/
def shortL (l : List UInt8) : List UInt8 := (l.reverse.dropWhile (· == 48)).reverse

theorem short_nil : shortL [] = [] := rfl
theorem short_zero (l : List UInt8) : shortL (l ++ [48]) = shortL l := by simp [shortL]
theorem short_keep (l : List UInt8) (c : UInt8) (h : ¬ c = 48) : shortL (l ++ [c]) = l ++ [c] := by
  have : (c == 48) = false := by simpa using h
  simp [shortL, this]

/-- an operand of a number: digits ahead of the point, and behind it -/
def operandL (wh fr c : List UInt8) : Option (List UInt8 × List UInt8) :=
  if c = [110] then some (wh, fr) else if c = [105] then some (wh, []) else if c = [118] then some (decL fr.length, []) else if c = [119] then some (decL (shortL fr).length, [])
  else if c = [102] then some (plainL fr, []) else if c = [116] then some (plainL (shortL fr), []) else none

def OperandPost (r : Option (List UInt8 × List UInt8)) (w : World) (e : Ending) (w' : World) : Prop :=
  (match r with | some (a, b) => e = .returned (.tuple #[strv a, strv b, .bool true]) | none => e = .returned (.tuple #[strv [], strv [], .bool false])) ∧ Below w.heap.size w w'

set_option maxHeartbeats 600000 in
theorem operand_n (b : Bool) (wh fr : ByteArray) (w : World) (hf : fr.size ≤ 1000000) :
    Calls Tryz.prog 80 #[.agg #[.bool b, .string wh, .string fr], .string ⟨#[110]⟩] w fun e w' => e = .returned (.tuple #[.string wh, .string fr, .bool true]) ∧ Below w.heap.size w w' := by
  go_enter Tryz.func80, Tryz.ntmps80
  go_wp2
  go_loop [7] (fun v => ∃ t : ByteArray, v = .string t ∧ t.size ≤ 1000000 ∧ shortL t.data.toList = shortL fr.data.toList) (fun v => match v with | .string t => t.size | _ => 0)
  case atStart => exact ⟨fr, rfl, hf, rfl⟩
  case round =>
    obtain ⟨t, rfl, ht, hp⟩ := hrel
    have HP := Lib.hid hp
    clear hp
    by_cases h0 : t.size = 0
    · have hl : t.data.toList = [] := List.eq_nil_of_length_eq_zero (by rw [size_toList]; exact h0)
      have hsh : shortL fr.data.toList = t.data.toList := by rw [← HP.out, hl]; rfl
      have HSH := Lib.hid hsh
      have h00 : ¬ 0 < t.size := by omega
      clear hl hsh h0
      go_wp2_with fail
      go_quiet (fail)
      go_wp2
      go_ret3
      exact ⟨rfl, by (repeat (first | (with_reducible exact Below.refl _ _) | (with_reducible refine below_drewN ?_ _) | (with_reducible refine Below.drew ?_) | (with_reducible refine Below.alloc ?_ ?_ _; rotate_left; focus (first | (simp; done) | (simp; omega)))))⟩
    · obtain ⟨n, hn⟩ : ∃ n, t.size = n + 1 := ⟨t.size - 1, by omega⟩
      have hlt : n < t.size := by omega
      have hl : t.data.toList = t.data.toList.take n ++ [t[n]] := by rw [← take_snoc t n hlt, ← hn, take_all]
      have HL := Lib.hid hl
      have b1 : IntKind.i64.wrap ((t.size : Int) - 1) = (n : Int) := by rw [hn]; rw [show (((n + 1 : Nat) : Int) - 1) = (n : Int) by omega]; exact IntWalk.i64_in _ (by omega)
      have b2 : ((t.size : Int) - 1) = (n : Int) := by omega
      have h00 : 0 < t.size := by omega
      have HN := Lib.hid hn
      clear hl hn h0
      by_cases hc : t[n] = 48
      · have hc' : ((t[n].toNat : Int) == 48) = true := by rw [hc]; rfl
        have hfin : shortL (t.extract 0 n).data.toList = shortL fr.data.toList := by
          have e : shortL t.data.toList = shortL (t.data.toList.take n) := by
            have := congrArg shortL HL.out
            rw [hc] at this
            exact this.trans (short_zero _)
          rw [extract_take, toList_mk, ← e, HP.out]
        have HF := Lib.hid hfin
        clear hc hfin
        go_wp2
        exact ⟨⟨t.extract 0 n, rfl, by simp; omega, HF.out⟩, by show (t.extract 0 n).size < t.size; simp; omega⟩
      · have hc' : ((t[n].toNat : Int) == 48) = false := by rw [show ((48 : Int)) = (((48 : UInt8).toNat : Nat) : Int) from rfl, toNat_beq]; simpa using hc
        have hsh : shortL fr.data.toList = t.data.toList := by rw [← HP.out]; exact (congrArg shortL HL.out).trans ((short_keep _ _ hc).trans HL.out.symm)
        have HSH := Lib.hid hsh
        clear hc hsh b2
        go_wp2_with fail
        go_quiet (fail)
        go_wp2
        go_ret3
        exact ⟨rfl, by (repeat (first | (with_reducible exact Below.refl _ _) | (with_reducible refine below_drewN ?_ _) | (with_reducible refine Below.drew ?_) | (with_reducible refine Below.alloc ?_ ?_ _; rotate_left; focus (first | (simp; done) | (simp; omega)))))⟩
set_option maxHeartbeats 600000 in
theorem operand_i (b : Bool) (wh fr : ByteArray) (w : World) (hf : fr.size ≤ 1000000) :
    Calls Tryz.prog 80 #[.agg #[.bool b, .string wh, .string fr], .string ⟨#[105]⟩] w fun e w' => e = .returned (.tuple #[.string wh, strv [], .bool true]) ∧ Below w.heap.size w w' := by
  go_enter Tryz.func80, Tryz.ntmps80
  go_wp2
  go_loop [7] (fun v => ∃ t : ByteArray, v = .string t ∧ t.size ≤ 1000000 ∧ shortL t.data.toList = shortL fr.data.toList) (fun v => match v with | .string t => t.size | _ => 0)
  case atStart => exact ⟨fr, rfl, hf, rfl⟩
  case round =>
    obtain ⟨t, rfl, ht, hp⟩ := hrel
    have HP := Lib.hid hp
    clear hp
    by_cases h0 : t.size = 0
    · have hl : t.data.toList = [] := List.eq_nil_of_length_eq_zero (by rw [size_toList]; exact h0)
      have hsh : shortL fr.data.toList = t.data.toList := by rw [← HP.out, hl]; rfl
      have HSH := Lib.hid hsh
      have h00 : ¬ 0 < t.size := by omega
      clear hl hsh h0
      go_wp2
      go_ret3
      exact ⟨rfl, by (repeat (first | (with_reducible exact Below.refl _ _) | (with_reducible refine below_drewN ?_ _) | (with_reducible refine Below.drew ?_) | (with_reducible refine Below.alloc ?_ ?_ _; rotate_left; focus (first | (simp; done) | (simp; omega)))))⟩
    · obtain ⟨n, hn⟩ : ∃ n, t.size = n + 1 := ⟨t.size - 1, by omega⟩
      have hlt : n < t.size := by omega
      have hl : t.data.toList = t.data.toList.take n ++ [t[n]] := by rw [← take_snoc t n hlt, ← hn, take_all]
      have HL := Lib.hid hl
      have b1 : IntKind.i64.wrap ((t.size : Int) - 1) = (n : Int) := by rw [hn]; rw [show (((n + 1 : Nat) : Int) - 1) = (n : Int) by omega]; exact IntWalk.i64_in _ (by omega)
      have b2 : ((t.size : Int) - 1) = (n : Int) := by omega
      have h00 : 0 < t.size := by omega
      have HN := Lib.hid hn
      clear hl hn h0
      by_cases hc : t[n] = 48
      · have hc' : ((t[n].toNat : Int) == 48) = true := by rw [hc]; rfl
        have hfin : shortL (t.extract 0 n).data.toList = shortL fr.data.toList := by
          have e : shortL t.data.toList = shortL (t.data.toList.take n) := by
            have := congrArg shortL HL.out
            rw [hc] at this
            exact this.trans (short_zero _)
          rw [extract_take, toList_mk, ← e, HP.out]
        have HF := Lib.hid hfin
        clear hc hfin
        go_wp2
        exact ⟨⟨t.extract 0 n, rfl, by simp; omega, HF.out⟩, by show (t.extract 0 n).size < t.size; simp; omega⟩
      · have hc' : ((t[n].toNat : Int) == 48) = false := by rw [show ((48 : Int)) = (((48 : UInt8).toNat : Nat) : Int) from rfl, toNat_beq]; simpa using hc
        have hsh : shortL fr.data.toList = t.data.toList := by rw [← HP.out]; exact (congrArg shortL HL.out).trans ((short_keep _ _ hc).trans HL.out.symm)
        have HSH := Lib.hid hsh
        clear hc hsh b2
        go_wp2
        go_ret3
        exact ⟨rfl, by (repeat (first | (with_reducible exact Below.refl _ _) | (with_reducible refine below_drewN ?_ _) | (with_reducible refine Below.drew ?_) | (with_reducible refine Below.alloc ?_ ?_ _; rotate_left; focus (first | (simp; done) | (simp; omega)))))⟩
set_option maxHeartbeats 600000 in
theorem operand_v (b : Bool) (wh fr : ByteArray) (w : World) (hf : fr.size ≤ 1000000) :
    Calls Tryz.prog 80 #[.agg #[.bool b, .string wh, .string fr], .string ⟨#[118]⟩] w fun e w' => e = .returned (.tuple #[strv (decL fr.data.toList.length), strv [], .bool true]) ∧ Below w.heap.size w w' := by
  go_enter Tryz.func80, Tryz.ntmps80
  go_wp2
  go_loop [7] (fun v => ∃ t : ByteArray, v = .string t ∧ t.size ≤ 1000000 ∧ shortL t.data.toList = shortL fr.data.toList) (fun v => match v with | .string t => t.size | _ => 0)
  case atStart => exact ⟨fr, rfl, hf, rfl⟩
  case round =>
    obtain ⟨t, rfl, ht, hp⟩ := hrel
    have HP := Lib.hid hp
    clear hp
    by_cases h0 : t.size = 0
    · have hl : t.data.toList = [] := List.eq_nil_of_length_eq_zero (by rw [size_toList]; exact h0)
      have hsh : shortL fr.data.toList = t.data.toList := by rw [← HP.out, hl]; rfl
      have HSH := Lib.hid hsh
      have h00 : ¬ 0 < t.size := by omega
      clear hl hsh h0
      go_wp2_with fail
      refine (decimal_any fr.size _ (by omega)).mono ?_
      rintro e w1 ⟨rfl, rfl⟩
      go_wp2
      go_ret3
      exact ⟨by rw [size_toList]; rfl, by (repeat (first | (with_reducible exact Below.refl _ _) | (with_reducible refine below_drewN ?_ _) | (with_reducible refine Below.drew ?_) | (with_reducible refine Below.alloc ?_ ?_ _; rotate_left; focus (first | (simp; done) | (simp; omega)))))⟩
    · obtain ⟨n, hn⟩ : ∃ n, t.size = n + 1 := ⟨t.size - 1, by omega⟩
      have hlt : n < t.size := by omega
      have hl : t.data.toList = t.data.toList.take n ++ [t[n]] := by rw [← take_snoc t n hlt, ← hn, take_all]
      have HL := Lib.hid hl
      have b1 : IntKind.i64.wrap ((t.size : Int) - 1) = (n : Int) := by rw [hn]; rw [show (((n + 1 : Nat) : Int) - 1) = (n : Int) by omega]; exact IntWalk.i64_in _ (by omega)
      have b2 : ((t.size : Int) - 1) = (n : Int) := by omega
      have h00 : 0 < t.size := by omega
      have HN := Lib.hid hn
      clear hl hn h0
      by_cases hc : t[n] = 48
      · have hc' : ((t[n].toNat : Int) == 48) = true := by rw [hc]; rfl
        have hfin : shortL (t.extract 0 n).data.toList = shortL fr.data.toList := by
          have e : shortL t.data.toList = shortL (t.data.toList.take n) := by
            have := congrArg shortL HL.out
            rw [hc] at this
            exact this.trans (short_zero _)
          rw [extract_take, toList_mk, ← e, HP.out]
        have HF := Lib.hid hfin
        clear hc hfin
        go_wp2
        exact ⟨⟨t.extract 0 n, rfl, by simp; omega, HF.out⟩, by show (t.extract 0 n).size < t.size; simp; omega⟩
      · have hc' : ((t[n].toNat : Int) == 48) = false := by rw [show ((48 : Int)) = (((48 : UInt8).toNat : Nat) : Int) from rfl, toNat_beq]; simpa using hc
        have hsh : shortL fr.data.toList = t.data.toList := by rw [← HP.out]; exact (congrArg shortL HL.out).trans ((short_keep _ _ hc).trans HL.out.symm)
        have HSH := Lib.hid hsh
        clear hc hsh b2
        go_wp2_with fail
        refine (decimal_any fr.size _ (by omega)).mono ?_
        rintro e w1 ⟨rfl, rfl⟩
        go_wp2
        go_ret3
        exact ⟨by rw [size_toList]; rfl, by (repeat (first | (with_reducible exact Below.refl _ _) | (with_reducible refine below_drewN ?_ _) | (with_reducible refine Below.drew ?_) | (with_reducible refine Below.alloc ?_ ?_ _; rotate_left; focus (first | (simp; done) | (simp; omega)))))⟩
set_option maxHeartbeats 600000 in
theorem operand_w (b : Bool) (wh fr : ByteArray) (w : World) (hf : fr.size ≤ 1000000) :
    Calls Tryz.prog 80 #[.agg #[.bool b, .string wh, .string fr], .string ⟨#[119]⟩] w fun e w' => e = .returned (.tuple #[strv (decL (shortL fr.data.toList).length), strv [], .bool true]) ∧ Below w.heap.size w w' := by
  go_enter Tryz.func80, Tryz.ntmps80
  go_wp2
  go_loop [7] (fun v => ∃ t : ByteArray, v = .string t ∧ t.size ≤ 1000000 ∧ shortL t.data.toList = shortL fr.data.toList) (fun v => match v with | .string t => t.size | _ => 0)
  case atStart => exact ⟨fr, rfl, hf, rfl⟩
  case round =>
    obtain ⟨t, rfl, ht, hp⟩ := hrel
    have HP := Lib.hid hp
    clear hp
    by_cases h0 : t.size = 0
    · have hl : t.data.toList = [] := List.eq_nil_of_length_eq_zero (by rw [size_toList]; exact h0)
      have hsh : shortL fr.data.toList = t.data.toList := by rw [← HP.out, hl]; rfl
      have HSH := Lib.hid hsh
      have h00 : ¬ 0 < t.size := by omega
      clear hl hsh h0
      go_wp2_with fail
      refine (decimal_any t.size _ (by omega)).mono ?_
      rintro e w1 ⟨rfl, rfl⟩
      go_wp2
      go_ret3
      exact ⟨by rw [HSH.out, size_toList]; rfl, by (repeat (first | (with_reducible exact Below.refl _ _) | (with_reducible refine below_drewN ?_ _) | (with_reducible refine Below.drew ?_) | (with_reducible refine Below.alloc ?_ ?_ _; rotate_left; focus (first | (simp; done) | (simp; omega)))))⟩
    · obtain ⟨n, hn⟩ : ∃ n, t.size = n + 1 := ⟨t.size - 1, by omega⟩
      have hlt : n < t.size := by omega
      have hl : t.data.toList = t.data.toList.take n ++ [t[n]] := by rw [← take_snoc t n hlt, ← hn, take_all]
      have HL := Lib.hid hl
      have b1 : IntKind.i64.wrap ((t.size : Int) - 1) = (n : Int) := by rw [hn]; rw [show (((n + 1 : Nat) : Int) - 1) = (n : Int) by omega]; exact IntWalk.i64_in _ (by omega)
      have b2 : ((t.size : Int) - 1) = (n : Int) := by omega
      have h00 : 0 < t.size := by omega
      have HN := Lib.hid hn
      clear hl hn h0
      by_cases hc : t[n] = 48
      · have hc' : ((t[n].toNat : Int) == 48) = true := by rw [hc]; rfl
        have hfin : shortL (t.extract 0 n).data.toList = shortL fr.data.toList := by
          have e : shortL t.data.toList = shortL (t.data.toList.take n) := by
            have := congrArg shortL HL.out
            rw [hc] at this
            exact this.trans (short_zero _)
          rw [extract_take, toList_mk, ← e, HP.out]
        have HF := Lib.hid hfin
        clear hc hfin
        go_wp2
        exact ⟨⟨t.extract 0 n, rfl, by simp; omega, HF.out⟩, by show (t.extract 0 n).size < t.size; simp; omega⟩
      · have hc' : ((t[n].toNat : Int) == 48) = false := by rw [show ((48 : Int)) = (((48 : UInt8).toNat : Nat) : Int) from rfl, toNat_beq]; simpa using hc
        have hsh : shortL fr.data.toList = t.data.toList := by rw [← HP.out]; exact (congrArg shortL HL.out).trans ((short_keep _ _ hc).trans HL.out.symm)
        have HSH := Lib.hid hsh
        clear hc hsh b2
        go_wp2_with fail
        refine (decimal_any t.size _ (by omega)).mono ?_
        rintro e w1 ⟨rfl, rfl⟩
        go_wp2
        go_ret3
        exact ⟨by rw [HSH.out, size_toList]; rfl, by (repeat (first | (with_reducible exact Below.refl _ _) | (with_reducible refine below_drewN ?_ _) | (with_reducible refine Below.drew ?_) | (with_reducible refine Below.alloc ?_ ?_ _; rotate_left; focus (first | (simp; done) | (simp; omega)))))⟩
set_option maxHeartbeats 600000 in
theorem operand_f (b : Bool) (wh fr : ByteArray) (w : World) (hf : fr.size ≤ 1000000) :
    Calls Tryz.prog 80 #[.agg #[.bool b, .string wh, .string fr], .string ⟨#[102]⟩] w fun e w' => e = .returned (.tuple #[strv (plainL fr.data.toList), strv [], .bool true]) ∧ Below w.heap.size w w' := by
  go_enter Tryz.func80, Tryz.ntmps80
  go_wp2
  go_loop [7] (fun v => ∃ t : ByteArray, v = .string t ∧ t.size ≤ 1000000 ∧ shortL t.data.toList = shortL fr.data.toList) (fun v => match v with | .string t => t.size | _ => 0)
  case atStart => exact ⟨fr, rfl, hf, rfl⟩
  case round =>
    obtain ⟨t, rfl, ht, hp⟩ := hrel
    have HP := Lib.hid hp
    clear hp
    by_cases h0 : t.size = 0
    · have hl : t.data.toList = [] := List.eq_nil_of_length_eq_zero (by rw [size_toList]; exact h0)
      have hsh : shortL fr.data.toList = t.data.toList := by rw [← HP.out, hl]; rfl
      have HSH := Lib.hid hsh
      have h00 : ¬ 0 < t.size := by omega
      clear hl hsh h0
      go_wp2_with fail
      refine (plain_any fr _ hf).mono ?_
      rintro e w1 ⟨rfl, rfl⟩
      go_wp2
      go_ret3
      exact ⟨rfl, by (repeat (first | (with_reducible exact Below.refl _ _) | (with_reducible refine below_drewN ?_ _) | (with_reducible refine Below.drew ?_) | (with_reducible refine Below.alloc ?_ ?_ _; rotate_left; focus (first | (simp; done) | (simp; omega)))))⟩
    · obtain ⟨n, hn⟩ : ∃ n, t.size = n + 1 := ⟨t.size - 1, by omega⟩
      have hlt : n < t.size := by omega
      have hl : t.data.toList = t.data.toList.take n ++ [t[n]] := by rw [← take_snoc t n hlt, ← hn, take_all]
      have HL := Lib.hid hl
      have b1 : IntKind.i64.wrap ((t.size : Int) - 1) = (n : Int) := by rw [hn]; rw [show (((n + 1 : Nat) : Int) - 1) = (n : Int) by omega]; exact IntWalk.i64_in _ (by omega)
      have b2 : ((t.size : Int) - 1) = (n : Int) := by omega
      have h00 : 0 < t.size := by omega
      have HN := Lib.hid hn
      clear hl hn h0
      by_cases hc : t[n] = 48
      · have hc' : ((t[n].toNat : Int) == 48) = true := by rw [hc]; rfl
        have hfin : shortL (t.extract 0 n).data.toList = shortL fr.data.toList := by
          have e : shortL t.data.toList = shortL (t.data.toList.take n) := by
            have := congrArg shortL HL.out
            rw [hc] at this
            exact this.trans (short_zero _)
          rw [extract_take, toList_mk, ← e, HP.out]
        have HF := Lib.hid hfin
        clear hc hfin
        go_wp2
        exact ⟨⟨t.extract 0 n, rfl, by simp; omega, HF.out⟩, by show (t.extract 0 n).size < t.size; simp; omega⟩
      · have hc' : ((t[n].toNat : Int) == 48) = false := by rw [show ((48 : Int)) = (((48 : UInt8).toNat : Nat) : Int) from rfl, toNat_beq]; simpa using hc
        have hsh : shortL fr.data.toList = t.data.toList := by rw [← HP.out]; exact (congrArg shortL HL.out).trans ((short_keep _ _ hc).trans HL.out.symm)
        have HSH := Lib.hid hsh
        clear hc hsh b2
        go_wp2_with fail
        refine (plain_any fr _ hf).mono ?_
        rintro e w1 ⟨rfl, rfl⟩
        go_wp2
        go_ret3
        exact ⟨rfl, by (repeat (first | (with_reducible exact Below.refl _ _) | (with_reducible refine below_drewN ?_ _) | (with_reducible refine Below.drew ?_) | (with_reducible refine Below.alloc ?_ ?_ _; rotate_left; focus (first | (simp; done) | (simp; omega)))))⟩
set_option maxHeartbeats 600000 in
theorem operand_t (b : Bool) (wh fr : ByteArray) (w : World) (hf : fr.size ≤ 1000000) :
    Calls Tryz.prog 80 #[.agg #[.bool b, .string wh, .string fr], .string ⟨#[116]⟩] w fun e w' => e = .returned (.tuple #[strv (plainL (shortL fr.data.toList)), strv [], .bool true]) ∧ Below w.heap.size w w' := by
  go_enter Tryz.func80, Tryz.ntmps80
  go_wp2
  go_loop [7] (fun v => ∃ t : ByteArray, v = .string t ∧ t.size ≤ 1000000 ∧ shortL t.data.toList = shortL fr.data.toList) (fun v => match v with | .string t => t.size | _ => 0)
  case atStart => exact ⟨fr, rfl, hf, rfl⟩
  case round =>
    obtain ⟨t, rfl, ht, hp⟩ := hrel
    have HP := Lib.hid hp
    clear hp
    by_cases h0 : t.size = 0
    · have hl : t.data.toList = [] := List.eq_nil_of_length_eq_zero (by rw [size_toList]; exact h0)
      have hsh : shortL fr.data.toList = t.data.toList := by rw [← HP.out, hl]; rfl
      have HSH := Lib.hid hsh
      have h00 : ¬ 0 < t.size := by omega
      clear hl hsh h0
      go_wp2_with fail
      refine (plain_any t _ ht).mono ?_
      rintro e w1 ⟨rfl, rfl⟩
      go_wp2
      go_ret3
      exact ⟨by rw [HSH.out]; rfl, by (repeat (first | (with_reducible exact Below.refl _ _) | (with_reducible refine below_drewN ?_ _) | (with_reducible refine Below.drew ?_) | (with_reducible refine Below.alloc ?_ ?_ _; rotate_left; focus (first | (simp; done) | (simp; omega)))))⟩
    · obtain ⟨n, hn⟩ : ∃ n, t.size = n + 1 := ⟨t.size - 1, by omega⟩
      have hlt : n < t.size := by omega
      have hl : t.data.toList = t.data.toList.take n ++ [t[n]] := by rw [← take_snoc t n hlt, ← hn, take_all]
      have HL := Lib.hid hl
      have b1 : IntKind.i64.wrap ((t.size : Int) - 1) = (n : Int) := by rw [hn]; rw [show (((n + 1 : Nat) : Int) - 1) = (n : Int) by omega]; exact IntWalk.i64_in _ (by omega)
      have b2 : ((t.size : Int) - 1) = (n : Int) := by omega
      have h00 : 0 < t.size := by omega
      have HN := Lib.hid hn
      clear hl hn h0
      by_cases hc : t[n] = 48
      · have hc' : ((t[n].toNat : Int) == 48) = true := by rw [hc]; rfl
        have hfin : shortL (t.extract 0 n).data.toList = shortL fr.data.toList := by
          have e : shortL t.data.toList = shortL (t.data.toList.take n) := by
            have := congrArg shortL HL.out
            rw [hc] at this
            exact this.trans (short_zero _)
          rw [extract_take, toList_mk, ← e, HP.out]
        have HF := Lib.hid hfin
        clear hc hfin
        go_wp2
        exact ⟨⟨t.extract 0 n, rfl, by simp; omega, HF.out⟩, by show (t.extract 0 n).size < t.size; simp; omega⟩
      · have hc' : ((t[n].toNat : Int) == 48) = false := by rw [show ((48 : Int)) = (((48 : UInt8).toNat : Nat) : Int) from rfl, toNat_beq]; simpa using hc
        have hsh : shortL fr.data.toList = t.data.toList := by rw [← HP.out]; exact (congrArg shortL HL.out).trans ((short_keep _ _ hc).trans HL.out.symm)
        have HSH := Lib.hid hsh
        clear hc hsh b2
        go_wp2_with fail
        refine (plain_any t _ ht).mono ?_
        rintro e w1 ⟨rfl, rfl⟩
        go_wp2
        go_ret3
        exact ⟨by rw [HSH.out]; rfl, by (repeat (first | (with_reducible exact Below.refl _ _) | (with_reducible refine below_drewN ?_ _) | (with_reducible refine Below.drew ?_) | (with_reducible refine Below.alloc ?_ ?_ _; rotate_left; focus (first | (simp; done) | (simp; omega)))))⟩
end Go.Proofs.YtpepgmccbkkaaaaGreatDoor

/- The document's rules: operands, all of them. -/
namespace Go.Proofs.YtpepgmccbkkaaaaGreatDoor
open Go Go.RowKit
set_option maxRecDepth 10000

set_option maxHeartbeats 1000000 in
theorem operand_none (b : Bool) (wh fr c : ByteArray) (w : World) (hf : fr.size ≤ 1000000) (h1 : ¬ c.data.toList = [110]) (h2 : ¬ c.data.toList = [105]) (h3 : ¬ c.data.toList = [118]) (h4 : ¬ c.data.toList = [119]) (h5 : ¬ c.data.toList = [102]) (h6 : ¬ c.data.toList = [116]) :
    Calls Tryz.prog 80 #[.agg #[.bool b, .string wh, .string fr], .string c] w fun e w' => e = .returned (.tuple #[strv [], strv [], .bool false]) ∧ Below w.heap.size w w' := by
  have q1 : (c.toList == [110]) = false := by rw [toList_at]; simpa using h1
  have q2 : (c.toList == [105]) = false := by rw [toList_at]; simpa using h2
  have q3 : (c.toList == [118]) = false := by rw [toList_at]; simpa using h3
  have q4 : (c.toList == [119]) = false := by rw [toList_at]; simpa using h4
  have q5 : (c.toList == [102]) = false := by rw [toList_at]; simpa using h5
  have q6 : (c.toList == [116]) = false := by rw [toList_at]; simpa using h6
  clear h1 h2 h3 h4 h5 h6
  go_enter Tryz.func80, Tryz.ntmps80
  go_wp2
  go_loop [7] (fun v => ∃ t : ByteArray, v = .string t ∧ t.size ≤ 1000000) (fun v => match v with | .string t => t.size | _ => 0)
  case atStart => exact ⟨fr, rfl, hf⟩
  case round =>
    obtain ⟨t, rfl, ht⟩ := hrel
    by_cases h0 : t.size = 0
    · have h00 : ¬ 0 < t.size := by omega
      clear h0
      go_wp2
      go_ret3
      exact ⟨rfl, (Below.refl _ _).alloc (Nat.le_refl _) _⟩
    · obtain ⟨n, hn⟩ : ∃ n, t.size = n + 1 := ⟨t.size - 1, by omega⟩
      have hlt : n < t.size := by omega
      have b1 : IntKind.i64.wrap ((t.size : Int) - 1) = (n : Int) := by rw [hn]; rw [show (((n + 1 : Nat) : Int) - 1) = (n : Int) by omega]; exact IntWalk.i64_in _ (by omega)
      have b2 : ((t.size : Int) - 1) = (n : Int) := by omega
      have h00 : 0 < t.size := by omega
      clear hn h0
      by_cases hc : t[n] = 48
      · have hc' : ((t[n].toNat : Int) == 48) = true := by rw [hc]; rfl
        clear hc
        go_wp2
        exact ⟨⟨t.extract 0 n, rfl, by simp; omega⟩, by show (t.extract 0 n).size < t.size; simp; omega⟩
      · have hc' : ((t[n].toNat : Int) == 48) = false := by rw [show ((48 : Int)) = (((48 : UInt8).toNat : Nat) : Int) from rfl, toNat_beq]; simpa using hc
        clear hc b2
        go_wp2
        go_ret3
        exact ⟨rfl, (Below.refl _ _).alloc (Nat.le_refl _) _⟩

theorem lit_of {c : ByteArray} {l : List UInt8} (h : c.data.toList = l) : c = ⟨l.toArray⟩ := by rw [← h, mk_toList]

theorem operand_any (b : Bool) (wh fr c : ByteArray) (w : World) (hf : fr.size ≤ 1000000) :
    Calls Tryz.prog 80 #[.agg #[.bool b, .string wh, .string fr], .string c] w (OperandPost (operandL wh.data.toList fr.data.toList c.data.toList) w) := by
  have sv : ∀ s : ByteArray, strv s.data.toList = .string s := fun s => congrArg Value.string (mk_toList s)
  by_cases h1 : c.data.toList = [110]
  · rw [lit_of h1]
    refine (operand_n b wh fr w hf).mono ?_
    rintro e w1 ⟨rfl, hb⟩
    refine ⟨?_, hb⟩
    show _ = Ending.returned (.tuple #[strv wh.data.toList, strv fr.data.toList, .bool true])
    rw [sv, sv]
  by_cases h2 : c.data.toList = [105]
  · rw [lit_of h2]
    refine (operand_i b wh fr w hf).mono ?_
    rintro e w1 ⟨rfl, hb⟩
    refine ⟨?_, hb⟩
    show _ = Ending.returned (.tuple #[strv wh.data.toList, strv [], .bool true])
    rw [sv]
  by_cases h3 : c.data.toList = [118]
  · rw [lit_of h3]
    exact (operand_v b wh fr w hf).mono fun e w1 h => ⟨h.1, h.2⟩
  by_cases h4 : c.data.toList = [119]
  · rw [lit_of h4]
    exact (operand_w b wh fr w hf).mono fun e w1 h => ⟨h.1, h.2⟩
  by_cases h5 : c.data.toList = [102]
  · rw [lit_of h5]
    exact (operand_f b wh fr w hf).mono fun e w1 h => ⟨h.1, h.2⟩
  by_cases h6 : c.data.toList = [116]
  · rw [lit_of h6]
    exact (operand_t b wh fr w hf).mono fun e w1 h => ⟨h.1, h.2⟩
  refine (operand_none b wh fr c w hf h1 h2 h3 h4 h5 h6).mono ?_
  rintro e w1 ⟨rfl, hb⟩
  refine ⟨?_, hb⟩
  unfold operandL
  rw [if_neg h1, if_neg h2, if_neg h3, if_neg h4, if_neg h5, if_neg h6]
end Go.Proofs.YtpepgmccbkkaaaaGreatDoor
