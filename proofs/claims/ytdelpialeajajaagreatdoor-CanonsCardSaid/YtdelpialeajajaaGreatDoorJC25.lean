import Derived.Test.YtdelpialeajajaaGreatDoorJC24

/- The one form of a message: of the tree, of the document's marks. -/
namespace Go.Proofs.YtdelpialeajajaaGreatDoor
open Go Go.RowKit
set_option maxRecDepth 10000

/-- a byte that stands not for itself, or an apostrophe -/
def qB (num : Bool) (c : UInt8) : Bool := c == 39 || (c == 123 || (c == 125 || (c == 35 && num)))
/-- all apostrophes twice -/
def dblL (a : Wd) : Wd := a.flatMap fun c => if c = 39 then [39, 39] else [c]
/-- a run of such bytes, in quotes if need be -/
def runQ (a : Wd) : Wd := if (a.any fun c => c != 39) = true then 39 :: (dblL a ++ [39]) else dblL a
/-- a text in the one form: byte by byte -/
def wrG (num : Bool) : Nat → Wd → Wd
  | 0, _ => []
  | n + 1, s => if s = [] then [] else if s.takeWhile (qB num) = [] then s.take 1 ++ wrG num n (s.drop 1) else runQ (s.takeWhile (qB num)) ++ wrG num n (s.drop (s.takeWhile (qB num)).length)
def wrT (num : Bool) (s : Wd) : Wd := wrG num s.length s
/-- .. run by run -/
def prG (num : Bool) : Nat → Wd → Wd
  | 0, _ => []
  | n + 1, s => if s = [] then [] else runQ (s.takeWhile (qB num)) ++ ((s.drop (s.takeWhile (qB num)).length).takeWhile (fun c => !qB num c) ++ prG num n ((s.drop (s.takeWhile (qB num)).length).drop ((s.drop (s.takeWhile (qB num)).length).takeWhile (fun c => !qB num c)).length))

theorem wrG_fuel (num : Bool) : ∀ (n m : Nat) (s : Wd), s.length ≤ n → s.length ≤ m → wrG num n s = wrG num m s
  | 0, m, s, h, _ => by
    have : s = [] := List.eq_nil_of_length_eq_zero (by omega)
    subst this
    cases m <;> simp [wrG]
  | n + 1, 0, s, _, h => by
    have : s = [] := List.eq_nil_of_length_eq_zero (by omega)
    subst this
    simp [wrG]
  | n + 1, m + 1, s, h1, h2 => by
    rw [wrG, wrG]
    by_cases hs : s = []
    · rw [if_pos hs, if_pos hs]
    have hl := List.length_pos_iff.2 hs
    rw [if_neg hs, if_neg hs]
    by_cases ha : s.takeWhile (qB num) = []
    · rw [if_pos ha, if_pos ha, wrG_fuel num n m (s.drop 1) (by simp; omega) (by simp; omega)]
    · have := List.length_pos_iff.2 ha
      rw [if_neg ha, if_neg ha, wrG_fuel num n m _ (by simp; omega) (by simp; omega)]
theorem wrT_nil (num : Bool) : wrT num [] = [] := rfl
theorem wrT_one {num : Bool} {c : UInt8} (h : qB num c = false) (t : Wd) : wrT num (c :: t) = c :: wrT num t := by
  unfold wrT
  rw [List.length_cons, wrG, if_neg (by simp), if_pos (by rw [List.takeWhile_cons_of_neg (by simp [h])])]
  rfl
theorem wrT_run {num : Bool} {s : Wd} (h : s.takeWhile (qB num) ≠ []) : wrT num s = runQ (s.takeWhile (qB num)) ++ wrT num (s.drop (s.takeWhile (qB num)).length) := by
  have hs : s ≠ [] := fun e => by subst e; exact h rfl
  have := List.length_pos_iff.2 h
  have hp := List.length_pos_iff.2 hs
  unfold wrT
  obtain ⟨n, hn⟩ : ∃ n, s.length = n + 1 := ⟨s.length - 1, by omega⟩
  rw [hn, wrG, if_neg hs, if_neg h]
  congr 1
  exact wrG_fuel num _ _ _ (by simp; omega) (Nat.le_refl _)
theorem wrT_plain {num : Bool} : ∀ (b r : Wd), (∀ c ∈ b, qB num c = false) → wrT num (b ++ r) = b ++ wrT num r
  | [], r, _ => rfl
  | c :: b, r, h => by
    rw [List.cons_append, wrT_one (h c List.mem_cons_self), wrT_plain b r (fun d hd => h d (List.mem_cons_of_mem _ hd))]
    rfl
theorem runQ_nil : runQ [] = [] := rfl
theorem prG_wrT (num : Bool) : ∀ (n : Nat) (s : Wd), s.length ≤ n → prG num n s = wrT num s
  | 0, s, h => by
    have : s = [] := List.eq_nil_of_length_eq_zero (by omega)
    subst this
    rfl
  | n + 1, s, h => by
    rw [prG]
    by_cases hs : s = []
    · rw [if_pos hs, hs]; rfl
    have hl := List.length_pos_iff.2 hs
    rw [if_neg hs]
    obtain ⟨a, ha⟩ : ∃ a, s.takeWhile (qB num) = a := ⟨_, rfl⟩
    obtain ⟨r, hr⟩ : ∃ r, s.drop a.length = r := ⟨_, rfl⟩
    obtain ⟨b, hb⟩ : ∃ b, r.takeWhile (fun c => !qB num c) = b := ⟨_, rfl⟩
    obtain ⟨u, hu⟩ : ∃ u, r.drop b.length = u := ⟨_, rfl⟩
    have e0 : s = a ++ r := by
      have h1 := List.takeWhile_append_dropWhile (p := qB num) (l := s)
      have h2 : s.dropWhile (qB num) = r := by
        rw [← hr, ← ha]
        conv => rhs; arg 2; rw [← h1]
        rw [List.drop_left]
      rw [h2, ha] at h1
      exact h1.symm
    have e1 : r = b ++ u := by
      have h1 := List.takeWhile_append_dropWhile (p := fun c => !qB num c) (l := r)
      have h2 : r.dropWhile (fun c => !qB num c) = u := by
        rw [← hu, ← hb]
        conv => rhs; arg 2; rw [← h1]
        rw [List.drop_left]
      rw [h2, hb] at h1
      exact h1.symm
    have hbq : ∀ c ∈ b, qB num c = false := fun c hc => by
      rw [← hb] at hc
      have := List.all_takeWhile (l := r) (p := fun c => !qB num c)
      rw [List.all_eq_true] at this
      simpa using this c hc
    rw [ha, hr, hb, hu]
    have hne : a ≠ [] ∨ b ≠ [] := by
      by_cases h1 : a = []
      · refine .inr fun h2 => ?_
        subst h1
        rw [List.nil_append] at e0
        subst e0
        cases hsx : s with
        | nil => exact hs hsx
        | cons c t =>
          rw [hsx] at ha hb
          by_cases hq : qB num c = true
          · rw [List.takeWhile_cons_of_pos hq] at ha; cases ha
          · rw [List.takeWhile_cons_of_pos (by simpa using hq)] at hb
            rw [h2] at hb
            cases hb
      · exact .inl h1
    have hul : u.length ≤ n := by
      have h1 := congrArg List.length e0
      have h2 := congrArg List.length e1
      rw [List.length_append] at h1 h2
      rcases hne with h3 | h3
      · have := List.length_pos_iff.2 h3; omega
      · have := List.length_pos_iff.2 h3; omega
    rw [prG_wrT num n u hul]
    have h2 : wrT num r = b ++ wrT num u := by rw [e1, wrT_plain b u hbq]
    by_cases h1 : a = []
    · subst h1
      rw [List.nil_append] at e0
      rw [e0, h2]
      rfl
    · rw [wrT_run (s := s) (by rw [ha]; exact h1), ha, hr, h2]

/-- a message in the one form; num: in a branch by a number -/
def wrF (dec : Nat → Wd) (val : Wd → Nat) (num : Bool) : Fo → Wd
  | .nil => []
  | .text t r => wrT num t ++ wrF dec val num r
  | .hash r => 35 :: wrF dec val num r
  | .put n _ r => 123 :: (n ++ 125 :: wrF dec val num r)
  | .num n _ r => 123 :: (n ++ ([44, 32, 110, 117, 109, 98, 101, 114, 125] ++ wrF dec val num r))
  | .br n _ f o _ bs r => 123 :: (n ++ ([44, 32] ++ (formW f ++ 44 :: ((if 0 < val o then [32, 111, 102, 102, 115, 101, 116, 58] ++ dec (val o) else []) ++ (wrF dec val (decide (f ≠ 0)) bs ++ 125 :: wrF dec val num r)))))
  | .leg k _ m r => 32 :: (k ++ ([32, 123] ++ (wrF dec val num m ++ 125 :: wrF dec val num r)))

/-- what a mark is in the one form, and what is open behind it -/
def canT (st : List Bool) (m : Mk) : Wd :=
  if m.kind = 116 then wrT (st.getLast?.getD false) m.text
  else if m.kind = 35 then [35]
  else if m.kind = 112 then 123 :: (m.name ++ [125])
  else if m.kind = 110 then 123 :: (m.name ++ [44, 32, 110, 117, 109, 98, 101, 114, 125])
  else if m.kind = 40 then 123 :: (m.name ++ ([44, 32] ++ (m.how ++ (44 :: if m.off ≠ [48] then [32, 111, 102, 102, 115, 101, 116, 58] ++ m.off else []))))
  else if m.kind = 91 then 32 :: (m.text ++ [32, 123])
  else if m.kind = 93 then [125]
  else if m.kind = 41 then [125]
  else []
def canS (st : List Bool) (m : Mk) : List Bool := if m.kind = 40 then st ++ [decide (m.how ≠ selD)] else if m.kind = 41 then st.dropLast else st
def canGo : List Bool → List Mk → Wd
  | _, [] => []
  | st, m :: t => canT st m ++ canGo (canS st m) t
/-- what is open behind marks -/
def canSt : List Bool → List Mk → List Bool
  | st, [] => st
  | st, m :: t => canSt (canS st m) t
/-- nothing ends that is not open -/
def canOk : List Bool → List Mk → Prop
  | _, [] => True
  | st, m :: t => (m.kind = 41 → st ≠ []) ∧ canOk (canS st m) t

/-- offsets are what their values are written as -/
def Fo.offOk (dec : Nat → Wd) (val : Wd → Nat) : Fo → Prop
  | .nil => True
  | .text _ r => r.offOk dec val
  | .hash r => r.offOk dec val
  | .put _ _ r => r.offOk dec val
  | .num _ _ r => r.offOk dec val
  | .br _ _ f o _ bs r => f < 3 ∧ (o = [48] ∨ o ≠ [48] ∧ dec (val o) = o) ∧ (o = [48] ↔ val o = 0) ∧ bs.offOk dec val ∧ r.offOk dec val
  | .leg _ _ m r => m.offOk dec val ∧ r.offOk dec val

theorem canGo_marks (rs : List Int) (dec : Nat → Wd) (val : Wd → Nat) : ∀ (f : Fo) (st : List Bool) (Q : List Mk), f.offOk dec val →
    canGo st (marksF rs f ++ Q) = wrF dec val (st.getLast?.getD false) f ++ canGo st Q ∧ canSt st (marksF rs f ++ Q) = canSt st Q ∧ (canOk st Q → canOk st (marksF rs f ++ Q))
  | .nil, st, Q, _ => ⟨rfl, rfl, fun h => h⟩
  | .text t r, st, Q, h => by
    obtain ⟨h1, h2, h3⟩ := canGo_marks rs dec val r st Q h
    refine ⟨?_, h2, fun hq => ⟨fun e => (by cases e), h3 hq⟩⟩
    show wrT _ t ++ canGo st (marksF rs r ++ Q) = _
    rw [h1, wrF, List.append_assoc]
  | .hash r, st, Q, h => by
    obtain ⟨h1, h2, h3⟩ := canGo_marks rs dec val r st Q h
    refine ⟨?_, h2, fun hq => ⟨fun e => (by cases e), h3 hq⟩⟩
    show [35] ++ canGo st (marksF rs r ++ Q) = _
    rw [h1, wrF]
    rfl
  | .put n a r, st, Q, h => by
    obtain ⟨h1, h2, h3⟩ := canGo_marks rs dec val r st Q h
    refine ⟨?_, h2, fun hq => ⟨fun e => (by cases e), h3 hq⟩⟩
    show 123 :: (n ++ [125]) ++ canGo st (marksF rs r ++ Q) = _
    rw [h1, wrF]
    simp
  | .num n a r, st, Q, h => by
    obtain ⟨h1, h2, h3⟩ := canGo_marks rs dec val r st Q h
    refine ⟨?_, h2, fun hq => ⟨fun e => (by cases e), h3 hq⟩⟩
    show 123 :: (n ++ [44, 32, 110, 117, 109, 98, 101, 114, 125]) ++ canGo st (marksF rs r ++ Q) = _
    rw [h1, wrF]
    simp
  | .br n a f o c bs r, st, Q, h => by
    obtain ⟨f1, f2, f3, f4, f5⟩ := h
    have hnum : decide (formW f ≠ selD) = decide (f ≠ 0) := by
      match f, f1 with
      | 0, _ => decide
      | 1, _ => decide
      | 2, _ => decide
    obtain ⟨g1, g2, g3⟩ := canGo_marks rs dec val bs (st ++ [decide (f ≠ 0)]) (⟨41, [], [], [], [], offI rs c⟩ :: (marksF rs r ++ Q)) f4
    obtain ⟨h1, h2, h3⟩ := canGo_marks rs dec val r st Q f5
    have hl : marksF rs (.br n a f o c bs r) ++ Q = ⟨40, [], n, formW f, o, offI rs a⟩ :: (marksF rs bs ++ ⟨41, [], [], [], [], offI rs c⟩ :: (marksF rs r ++ Q)) := by simp [marksF]
    have hs : canS st ⟨40, [], n, formW f, o, offI rs a⟩ = st ++ [decide (f ≠ 0)] := by
      unfold canS
      rw [if_pos rfl, hnum]
    have hs2 : canS (st ++ [decide (f ≠ 0)]) ⟨41, [], [], [], [], offI rs c⟩ = st := by
      unfold canS
      rw [if_neg (by show ¬ 41 = 40; decide), if_pos rfl, List.dropLast_concat]
    rw [hl]
    refine ⟨?_, ?_, fun hq => ⟨fun e => (by cases e), ?_⟩⟩
    · rw [canGo, hs, g1, canGo, hs2, h1, wrF]
      have e1 : canT st ⟨40, [], n, formW f, o, offI rs a⟩ = 123 :: (n ++ ([44, 32] ++ (formW f ++ (44 :: if o ≠ [48] then [32, 111, 102, 102, 115, 101, 116, 58] ++ o else [])))) := rfl
      have e2 : canT (st ++ [decide (f ≠ 0)]) ⟨41, [], [], [], [], offI rs c⟩ = [125] := rfl
      have e3 : (if o ≠ [48] then [32, 111, 102, 102, 115, 101, 116, 58] ++ o else []) = (if 0 < val o then [32, 111, 102, 102, 115, 101, 116, 58] ++ dec (val o) else []) := by
        by_cases ho : o = [48]
        · rw [if_neg (fun q => q ho), if_neg (by rw [f3.1 ho]; exact Nat.lt_irrefl _)]
        · rcases f2 with q | ⟨_, q⟩
          · exact absurd q ho
          · rw [if_pos ho, if_pos (Nat.pos_of_ne_zero (fun z => ho (f3.2 z))), q]
      rw [e1, e2, e3, List.getLast?_concat]
      simp
    · rw [canSt, hs, g2, canSt, hs2, h2]
    · rw [hs]
      refine g3 ⟨fun _ => by simp, ?_⟩
      rw [hs2]
      exact h3 hq
  | .leg k a m r, st, Q, h => by
    obtain ⟨f1, f2⟩ := h
    obtain ⟨g1, g2, g3⟩ := canGo_marks rs dec val m st (⟨93, [], [], [], [], 0⟩ :: (marksF rs r ++ Q)) f1
    obtain ⟨h1, h2, h3⟩ := canGo_marks rs dec val r st Q f2
    have hl : marksF rs (.leg k a m r) ++ Q = ⟨91, k, [], [], [], offI rs a⟩ :: (marksF rs m ++ ⟨93, [], [], [], [], 0⟩ :: (marksF rs r ++ Q)) := by simp [marksF]
    have hs : canS st ⟨91, k, [], [], [], offI rs a⟩ = st := rfl
    have hs2 : canS st ⟨93, [], [], [], [], 0⟩ = st := rfl
    rw [hl]
    refine ⟨?_, ?_, fun hq => ⟨fun e => (by cases e), ?_⟩⟩
    · rw [canGo, hs, g1, canGo, hs2, h1, wrF]
      have e1 : canT st ⟨91, k, [], [], [], offI rs a⟩ = 32 :: (k ++ [32, 123]) := rfl
      have e2 : canT st ⟨93, [], [], [], [], 0⟩ = [125] := rfl
      rw [e1, e2]
      simp
    · rw [canSt, hs, g2, canSt, hs2, h2]
    · rw [hs]
      refine g3 ⟨fun e => (by cases e), ?_⟩
      rw [hs2]
      exact h3 hq
theorem canon_law (rs : List Int) (dec : Nat → Wd) (val : Wd → Nat) (f : Fo) (h : f.offOk dec val) : canGo [] (marksF rs f) = wrF dec val false f ∧ canOk [] (marksF rs f) := by
  obtain ⟨h1, h2, h3⟩ := canGo_marks rs dec val f [] [] h
  rw [List.append_nil] at h1 h3
  refine ⟨?_, h3 trivial⟩
  rw [h1]
  simp [canGo]

/-- how long a mark is in the one form, at most -/
def massM (m : Mk) : Nat := 4 * m.text.length + m.name.length + m.how.length + m.off.length + 60
theorem dbl_len (a : Wd) : (dblL a).length ≤ 2 * a.length := by
  induction a with
  | nil => exact Nat.le_refl _
  | cons c t ih =>
    unfold dblL at ih ⊢
    have h2 : (if c = 39 then [39, 39] else [c] : Wd).length ≤ 2 := by split <;> simp
    rw [List.flatMap_cons, List.length_append, List.length_cons]
    omega
theorem runQ_len (a : Wd) (h : a ≠ []) : (runQ a).length ≤ 4 * a.length := by
  have := dbl_len a
  have := List.length_pos_iff.2 h
  unfold runQ
  split
  · simp; omega
  · omega
theorem wrG_len (num : Bool) : ∀ (n : Nat) (s : Wd), (wrG num n s).length ≤ 4 * s.length
  | 0, s => Nat.zero_le _
  | n + 1, s => by
    rw [wrG]
    split
    · simp
    next hs =>
    have hl := List.length_pos_iff.2 hs
    split
    · have := wrG_len num n (s.drop 1)
      simp at this ⊢
      omega
    next ha =>
    have h1 := wrG_len num n (s.drop (s.takeWhile (qB num)).length)
    have h2 := runQ_len _ ha
    have h3 : (s.takeWhile (qB num)).length ≤ s.length := (List.takeWhile_prefix _).length_le
    simp at h1 ⊢
    omega
theorem canT_len (st : List Bool) (m : Mk) : (canT st m).length ≤ massM m := by
  unfold canT massM
  repeat' split
  all_goals (try simp only [List.length_cons, List.length_append, List.length_nil])
  · have := wrG_len (st.getLast?.getD false) m.text.length m.text
    unfold wrT
    omega
  all_goals omega
theorem canGo_len : ∀ (l : List Mk) (st : List Bool) (C : Nat), (∀ m ∈ l, massM m ≤ C) → (canGo st l).length ≤ l.length * C
  | [], st, C, _ => Nat.zero_le _
  | m :: t, st, C, h => by
    have h1 := canT_len st m
    have h2 := canGo_len t (canS st m) C (fun x hx => h x (List.mem_cons_of_mem _ hx))
    have h3 := h m List.mem_cons_self
    rw [canGo, List.length_append, List.length_cons, Nat.succ_mul]
    omega
end Go.Proofs.YtdelpialeajajaaGreatDoor

/- The document's written: a text in the one form. -/
namespace Go.Proofs.YtdelpialeajajaaGreatDoor
open Go Go.RowKit
set_option maxRecDepth 10000

theorem takeWhile_stop {p : UInt8 → Bool} {u : Wd} {k : Nat} {c : UInt8} (hc : u[k]? = some c) (h : k ≤ (u.takeWhile p).length) (hp : p c = false) : k = (u.takeWhile p).length := by
  obtain ⟨hk, hc⟩ := List.getElem?_eq_some_iff.1 hc
  apply Classical.byContradiction
  intro hn
  have hlt : k < (u.takeWhile p).length := by omega
  have h1 := List.all_takeWhile (l := u) (p := p)
  rw [List.all_eq_true] at h1
  have h2 := h1 _ (List.getElem_mem hlt)
  rw [(List.takeWhile_prefix p).getElem hlt, hc, hp] at h2
  cases h2
theorem takeWhile_more {p : UInt8 → Bool} {u : Wd} {k : Nat} {c : UInt8} (hc : u[k]? = some c) (h : k ≤ (u.takeWhile p).length) (hp : p c = true) : k + 1 ≤ (u.takeWhile p).length := by
  apply Classical.byContradiction
  intro hn
  have he : (u.takeWhile p).length = k := by omega
  have h1 : u = u.takeWhile p ++ u.dropWhile p := List.takeWhile_append_dropWhile.symm
  have h2 : (u.dropWhile p).head? = some c := by
    rw [← hc]
    conv => rhs; rw [h1]
    rw [List.getElem?_append_right (by omega), he, Nat.sub_self]
    cases u.dropWhile p <;> rfl
  have h4 := List.head?_dropWhile_not p u
  rw [h2] at h4
  simp at h4
  rw [hp] at h4
  cases h4
theorem take_one {u : Wd} {k : Nat} {c : UInt8} (hc : u[k]? = some c) : u.take (k + 1) = u.take k ++ [c] := by
  obtain ⟨hk, hc⟩ := List.getElem?_eq_some_iff.1 hc
  rw [List.take_succ_eq_append_getElem hk, hc]
theorem any_take {u : Wd} {k : Nat} {c : UInt8} (hc : u[k]? = some c) : (u.take (k + 1)).any (fun c => c != 39) = ((u.take k).any (fun c => c != 39) || (c != 39)) := by
  rw [take_one hc, List.any_append]
  simp
theorem dbl_take {u : Wd} {k : Nat} {c : UInt8} (hc : u[k]? = some c) : dblL (u.take (k + 1)) = dblL (u.take k) ++ (if c = 39 then [39, 39] else [c]) := by
  unfold dblL
  rw [take_one hc, List.flatMap_append]
  simp
theorem toListZ' (l : Wd) : (⟨l.toArray⟩ : ByteArray).data.toList = l := by simp
theorem ext_take (u : Wd) (n : Nat) : (⟨u.toArray⟩ : ByteArray).extract 0 n = ⟨(u.take n).toArray⟩ := by
  rw [extract_take, toListZ']
theorem ext_drop (u : Wd) (n : Nat) : (⟨u.toArray⟩ : ByteArray).extract n u.length = ⟨(u.drop n).toArray⟩ := by
  have h := extract_drop ⟨u.toArray⟩ n
  rw [size_mk, toListZ'] at h
  exact h
theorem ext_one (u : Wd) (k : Nat) (c : UInt8) (h : u[k]? = some c) : (⟨u.toArray⟩ : ByteArray).extract k (k + 1) = ⟨[c].toArray⟩ := by
  obtain ⟨hk, hc⟩ := List.getElem?_eq_some_iff.1 h
  have h1 := extract_piece ⟨u.toArray⟩ k 1
  rw [toListZ'] at h1
  rw [h1, List.drop_eq_getElem_cons hk, hc]
  rfl
theorem wrT_head {num : Bool} {c : UInt8} {t : Wd} (h : (c :: t).takeWhile (qB num) = []) : wrT num (c :: t) = c :: wrT num t :=
  wrT_one (by
    by_cases hq : qB num c = true
    · rw [List.takeWhile_cons_of_pos hq] at h; cases h
    · simpa using hq) t
def szW (v : Value) : Nat := match v with | .string s => s.size | _ => 0

set_option maxHeartbeats 8000000 in
theorem written_true (s : Wd) (num : Bool) (hnm : num = true) (w : World) (hs : s.length ≤ 1000000) :
    Calls Tryz.prog 29 #[strv s, .bool true] w fun e w' => e = .returned (strv (wrT num s)) ∧ Below w.heap.size w w' := by
  have HNM := Lib.hid hnm
  have HSL := Lib.hid hs
  obtain ⟨F, hF⟩ : ∃ F, wrT num s = F := ⟨_, rfl⟩
  have hFl : F.length ≤ 4000000 := by rw [← hF]; have := wrG_len num s.length s; unfold wrT; omega
  rw [hF]
  have HF := Lib.hid hF
  have HFL := Lib.hid hFl
  have HRF := Lib.hid (Below.refl w.heap.size w)
  clear hs hF hFl hnm
  go_enter Tryz.func29, Tryz.ntmps29
  go_wp2_with fail
  go_loopw [0, 5] (fun sv tv wr => ∃ u acc, sv = strv u ∧ tv = strv acc ∧ u.length ≤ s.length ∧ acc ++ wrT num u = F ∧ Below w.heap.size w wr) (fun sv _ _ => szW sv)
  case atStart => exact ⟨s, [], rfl, rfl, Nat.le_refl _, HF.out, HRF.out⟩
  case round =>
    obtain ⟨u, acc, rfl, rfl, hul, heq, hbr⟩ := hrel
    have HBR := Lib.hid hbr
    have HEQ := Lib.hid heq
    have hul2 : u.length ≤ 1000000 := Nat.le_trans hul HSL.out
    have HUL := Lib.hid hul
    obtain ⟨ul, hulN⟩ : ∃ n, u.length = n := ⟨_, rfl⟩
    have HULN := Lib.hid hulN
    rw [hulN] at hul2
    have usz : (⟨u.toArray⟩ : ByteArray).size = ul := by rw [size_mk]; exact hulN
    clear hbr heq hul hulN
    by_cases hu : u = []
    · have HE := Lib.hid (show acc = F by have := HEQ.out; rw [hu, wrT_nil, List.append_nil] at this; exact this)
      have u0 : ul = 0 := by rw [← HULN.out, hu]; rfl
      subst u0
      subst hu
      clear usz
      go_wp2
      go_ret
      exact ⟨by rw [← HE.out]; rfl, HBR.out⟩
    · have hup : 0 < ul := by rw [← HULN.out]; exact List.length_pos_iff.2 hu
      have hupI : (0 : Int) < (ul : Int) := by omega
      have hacc : acc.length ≤ 4000000 := by
        have h1 := congrArg List.length HEQ.out
        rw [List.length_append] at h1
        have := HFL.out
        omega
      have HU := Lib.hid hu
      clear hu
      obtain ⟨a, ha⟩ : ∃ a, u.takeWhile (qB num) = a := ⟨_, rfl⟩
      obtain ⟨al, hal⟩ : ∃ n, a.length = n := ⟨_, rfl⟩
      have hau : al ≤ ul := by rw [← hal, ← HULN.out, ← ha]; exact (List.takeWhile_prefix _).length_le
      have HA := Lib.hid ha
      have HAL := Lib.hid hal
      obtain ⟨qa, hqa⟩ : ∃ x, (a.any fun c => c != 39) = x := ⟨_, rfl⟩
      have HQA := Lib.hid hqa
      clear ha hal hqa
      go_upto_block 2 with fail
      go_cut [6, 7] (fun nv qv wc => nv = .int .i64 (al : Nat) ∧ qv = .bool qa ∧ wc = wr)
      case rest =>
        obtain ⟨rfl, rfl, hwc⟩ := hcut
        have hwc := hwc.symm
        subst hwc
        obtain ⟨c0, u1, rfl⟩ : ∃ c t, u = c :: t := by
          cases u with
          | nil => exact absurd rfl HU.out
          | cons c t => exact ⟨c, t, rfl⟩
        have hcat : ¬ 9223372036854775807 < acc.length + 1 := by omega
        by_cases h0 : al = 0
        · have ha0 : a = [] := List.eq_nil_of_length_eq_zero (HAL.out.trans h0)
          have HEQ2 := Lib.hid (show (acc ++ [c0]) ++ wrT num u1 = F by
            rw [← HEQ.out, wrT_head (HA.out.trans ha0), List.append_assoc]
            rfl)
          have hx1 : (⟨(c0 :: u1).toArray⟩ : ByteArray).extract 0 1 = ⟨[c0].toArray⟩ := by rw [ext_take]; rfl
          have HX2 := Lib.hid (show (⟨(c0 :: u1).toArray⟩ : ByteArray).extract 1 ul = ⟨u1.toArray⟩ by
            have := ext_drop (c0 :: u1) 1
            rw [HULN.out] at this
            exact this)
          have hul1 : (1 : Int) ≤ (ul : Int) := by omega
          subst h0
          go_wp2_with fail
          rw [HX2.out]
          go_roundw
          case rel => exact ⟨u1, acc ++ [c0], rfl, by first | rfl | (show Value.string _ = Value.string _; congr 1; apply ByteArray.ext; simp), by have := HUL.out; simp at this; omega, HEQ2.out, HBR.out⟩
          case measure =>
            simp only [szW, strv]
            rw [size_mk, size_mk]
            simp
        · have hal1 : (al : Int) ≠ 0 := by omega
          have j0 : ((al : Int) == 0) = false := by simp; omega
          obtain ⟨qs, hqs⟩ : ∃ x : Wd, (if qa = true then [39] else []) = x := ⟨_, rfl⟩
          have hqsl : qs.length ≤ 1 := by rw [← hqs]; split <;> simp
          have hrun : qs ++ dblL a ++ qs = runQ a := by
            unfold runQ
            rw [HQA.out, ← hqs]
            cases qa <;> simp
          have hane : a ≠ [] := fun e => h0 (by rw [← HAL.out, e]; rfl)
          have hrl := runQ_len a hane
          have hdl := dbl_len a
          have hFe : acc ++ (runQ a ++ wrT num ((c0 :: u1).drop al)) = F := by
            have h1 := wrT_run (num := num) (s := c0 :: u1) (by rw [HA.out]; exact hane)
            rw [HA.out, HAL.out] at h1
            rw [← h1]
            exact HEQ.out
          have HFE := Lib.hid hFe
          have HRUN := Lib.hid hrun
          have HQS := Lib.hid hqs
          have hall : a.length ≤ 1000000 := by rw [HAL.out]; omega
          have hdl2 : (dblL a).length ≤ 2000000 := by omega
          have HDL := Lib.hid hdl2
          clear h0 hqs hrun hane hrl hdl hFe hall hdl2
          go_upto_if 61 with fail
          go_cut [8] (fun qv wc => qv = strv qs ∧ wc = wr)
          case first =>
            cases qa with
            | true =>
              have HZ := Lib.hid (show qs = [39] from HQS.out.symm)
              go_wp2_with fail
              go_meet
              case rel => exact ⟨by rw [HZ.out], rfl⟩
            | false =>
              have HZ := Lib.hid (show qs = [] from HQS.out.symm)
              go_wp2_with fail
              go_meet
              case rel => exact ⟨by rw [HZ.out], rfl⟩
          case rest =>
            obtain ⟨rfl, hwc⟩ := hcut
            have hwc := hwc.symm
            subst hwc
            have hcat2 : ¬ 9223372036854775807 < acc.length + qs.length := by omega
            obtain ⟨T0, hT0⟩ : ∃ x, acc ++ qs = x := ⟨_, rfl⟩
            have hT0l : T0.length ≤ 4000001 := by rw [← hT0, List.length_append]; omega
            have HT0 := Lib.hid hT0
            have HTB := Lib.hid (show Value.string ((⟨acc.toArray⟩ : ByteArray) ++ ⟨qs.toArray⟩) = strv T0 by rw [← hT0]; first | rfl | (show Value.string _ = Value.string _; congr 1; apply ByteArray.ext; simp))
            clear hT0
            go_wp2_with fail
            try rw [HTB.out]
            go_loopw [5, 9] (fun tv iv wq => ∃ k : Nat, tv = strv (T0 ++ dblL (a.take k)) ∧ iv = .int .i64 (k : Nat) ∧ k ≤ al ∧ wq = wr) (fun _ iv _ => al - (intOf iv).toNat)
            case atStart => exact ⟨0, by simp [dblL, ← HT0.out], rfl, Nat.zero_le _, by first | rfl | trivial⟩
            case round =>
              obtain ⟨k, rfl, rfl, hk, hwq⟩ := hrel
              have hwq := hwq.symm
              subst hwq
              obtain ⟨T, hT⟩ : ∃ x, T0 ++ dblL (a.take k) = x := ⟨_, rfl⟩
              have hTl : T.length ≤ 6000001 := by
                have h1 := dbl_len (a.take k)
                have h2 : (a.take k).length ≤ 1000000 := by rw [List.length_take, HAL.out]; omega
                rw [← hT, List.length_append]
                omega
              have HT := Lib.hid hT
              rw [hT]
              clear hT
              by_cases hlt : k < al
              · have hltI : (k : Int) < (al : Int) := by omega
                have hku : k < ul := by omega
                have hkuI : (k : Int) + 1 ≤ (ul : Int) := by omega
                have hku1 : k + 1 ≤ ul := by omega
                obtain ⟨c, hac⟩ : ∃ c, a[k]? = some c := ⟨a[k]'(by rw [HAL.out]; exact hlt), List.getElem?_eq_getElem _⟩
                have huc : (c0 :: u1)[k]? = some c := by
                  obtain ⟨h1, h2⟩ := List.getElem?_eq_some_iff.1 hac
                  have hpre : a <+: (c0 :: u1) := by rw [← HA.out]; exact List.takeWhile_prefix _
                  rw [List.getElem?_eq_getElem (by rw [HULN.out]; exact hku), ← hpre.getElem h1, h2]
                have HDB := Lib.hid (dbl_take hac)
                have hck : (⟨(c0 :: u1).toArray⟩ : ByteArray)[k]'(by rw [usz]; exact hku) = c := by
                  obtain ⟨h1, h2⟩ := List.getElem?_eq_some_iff.1 huc
                  rw [← h2]
                  rfl
                have hx1 := ext_one _ k c huc
                have HX1 := Lib.hid hx1
                clear hac huc
                have hcat3 : ¬ 9223372036854775807 < T.length + 1 := by omega
                have hcat4 : ¬ 9223372036854775807 < T.length + 1 + 1 := by omega
                by_cases h39 : c = 39
                · have HE := Lib.hid (show T0 ++ dblL (a.take (k + 1)) = T ++ [39] ++ [39] by rw [HDB.out, if_pos h39, ← List.append_assoc, HT.out, List.append_assoc]; rfl)
                  subst h39
                  go_wp2_with fail
                  go_roundw
                  case rel => exact ⟨k + 1, by rw [HE.out]; first | rfl | (show Value.string _ = Value.string _; congr 1; apply ByteArray.ext; simp), by go_num, by omega, by first | rfl | trivial⟩
                  case measure => simp [intOf]; omega
                · have HE := Lib.hid (show T0 ++ dblL (a.take (k + 1)) = T ++ [c] by rw [HDB.out, if_neg h39, ← List.append_assoc, HT.out])
                  have j1 : ((c.toNat : Int) == 39) = false := byte_ne h39
                  clear h39
                  go_wp2_with fail
                  go_roundw
                  case rel => exact ⟨k + 1, by rw [HE.out]; first | rfl | (show Value.string _ = Value.string _; congr 1; apply ByteArray.ext; simp), by go_num, by omega, by first | rfl | trivial⟩
                  case measure => simp [intOf]; omega
              · have hke : k = al := by omega
                have HE := Lib.hid (show T ++ qs = acc ++ runQ a by rw [← HT.out, hke, List.take_of_length_le (by rw [HAL.out]; exact Nat.le_refl _), ← HT0.out, ← HRUN.out]; simp)
                have HEQ3 := Lib.hid (show (T ++ qs) ++ wrT num ((c0 :: u1).drop al) = F by rw [HE.out, List.append_assoc]; exact HFE.out)
                have hcat5 : ¬ 9223372036854775807 < T.length + qs.length := by omega
                have HX2 := Lib.hid (show (⟨(c0 :: u1).toArray⟩ : ByteArray).extract al ul = ⟨((c0 :: u1).drop al).toArray⟩ by
                  have := ext_drop (c0 :: u1) al
                  rw [HULN.out] at this
                  exact this)
                have hauI : (al : Int) ≤ (ul : Int) := by omega
                subst hke
                go_wp2_with fail
                rw [HX2.out]
                go_roundw
                case rel => exact ⟨(c0 :: u1).drop k, T ++ qs, rfl, by first | rfl | (show Value.string _ = Value.string _; congr 1; apply ByteArray.ext; simp), by have := HUL.out; rw [List.length_drop]; omega, HEQ3.out, HBR.out⟩
                case measure =>
                  simp only [szW, strv]
                  rw [size_mk, size_mk, List.length_drop]
                  have := HULN.out
                  omega
      go_wp2_with fail
      go_loopw [6, 7] (fun nv qv wq => ∃ k : Nat, nv = .int .i64 (k : Nat) ∧ k ≤ al ∧ qv = .bool ((u.take k).any fun c => c != 39) ∧ wq = wr) (fun nv _ _ => ul - (intOf nv).toNat)
      case atStart => exact ⟨0, rfl, Nat.zero_le _, rfl, rfl⟩
      case round =>
        obtain ⟨k, rfl, hk, rfl, hwq⟩ := hrel
        have hwq := hwq.symm
        subst hwq
        obtain ⟨qk, hqk⟩ : ∃ x, ((u.take k).any fun c => c != 39) = x := ⟨_, rfl⟩
        have HQK := Lib.hid hqk
        rw [hqk]
        clear hqk
        by_cases hlt : k < ul
        · have hltI : (k : Int) < (ul : Int) := by omega
          have hku : k < u.length := by rw [HULN.out]; exact hlt
          have HKU := Lib.hid hku
          obtain ⟨c, hc⟩ : ∃ c, u[k] = c := ⟨_, rfl⟩
          have hck : (⟨u.toArray⟩ : ByteArray)[k]'(by rw [usz]; exact hlt) = c := by rw [← hc]; rfl
          have HUK := Lib.hid (show u[k]? = some c from (List.getElem?_eq_getElem HKU.out).trans (congrArg some hc))
          clear hc hku
          by_cases h39 : c = 39
          · subst h39
            have hk1 : k + 1 ≤ al := by
              have := takeWhile_more (p := qB num) HUK.out (by rw [HA.out, HAL.out]; exact hk) (by rfl)
              rw [HA.out, HAL.out] at this
              exact this
            cases qk with
            | true =>
              have HX := Lib.hid (show ((u.take (k + 1)).any fun c => c != 39) = true by rw [any_take HUK.out, HQK.out]; rfl)
              go_wp2_with fail
              go_roundw
              case rel => exact ⟨k + 1, by go_num, hk1, by rw [HX.out], by first | rfl | trivial⟩
              case measure => simp [intOf]; omega
            | false =>
              have HX := Lib.hid (show ((u.take (k + 1)).any fun c => c != 39) = false by rw [any_take HUK.out, HQK.out]; rfl)
              go_wp2_with fail
              go_roundw
              case rel => exact ⟨k + 1, by go_num, hk1, by rw [HX.out], by first | rfl | trivial⟩
              case measure => simp [intOf]; omega
          have j1 : ((c.toNat : Int) == 39) = false := byte_ne h39
          have j1b : ((c.toNat : Int) != 39) = true := by rw [bne, j1]; rfl
          by_cases h123 : c = 123
          · subst h123
            have hk1 : k + 1 ≤ al := by
              have := takeWhile_more (p := qB num) HUK.out (by rw [HA.out, HAL.out]; exact hk) (by rfl)
              rw [HA.out, HAL.out] at this
              exact this
            cases qk with
            | true =>
              have HX := Lib.hid (show ((u.take (k + 1)).any fun c => c != 39) = true by rw [any_take HUK.out, HQK.out]; rfl)
              go_wp2_with fail
              go_roundw
              case rel => exact ⟨k + 1, by go_num, hk1, by rw [HX.out], by first | rfl | trivial⟩
              case measure => simp [intOf]; omega
            | false =>
              have HX := Lib.hid (show ((u.take (k + 1)).any fun c => c != 39) = true by rw [any_take HUK.out, HQK.out]; rfl)
              go_wp2_with fail
              go_roundw
              case rel => exact ⟨k + 1, by go_num, hk1, by rw [HX.out], by first | rfl | trivial⟩
              case measure => simp [intOf]; omega
          have j2 : ((c.toNat : Int) == 123) = false := byte_ne h123
          by_cases h125 : c = 125
          · subst h125
            have hk1 : k + 1 ≤ al := by
              have := takeWhile_more (p := qB num) HUK.out (by rw [HA.out, HAL.out]; exact hk) (by rfl)
              rw [HA.out, HAL.out] at this
              exact this
            cases qk with
            | true =>
              have HX := Lib.hid (show ((u.take (k + 1)).any fun c => c != 39) = true by rw [any_take HUK.out, HQK.out]; rfl)
              go_wp2_with fail
              go_roundw
              case rel => exact ⟨k + 1, by go_num, hk1, by rw [HX.out], by first | rfl | trivial⟩
              case measure => simp [intOf]; omega
            | false =>
              have HX := Lib.hid (show ((u.take (k + 1)).any fun c => c != 39) = true by rw [any_take HUK.out, HQK.out]; rfl)
              go_wp2_with fail
              go_roundw
              case rel => exact ⟨k + 1, by go_num, hk1, by rw [HX.out], by first | rfl | trivial⟩
              case measure => simp [intOf]; omega
          have j3 : ((c.toNat : Int) == 125) = false := byte_ne h125
          by_cases h35 : c = 35
          · subst h35
            have hk1 : k + 1 ≤ al := by
              have := takeWhile_more (p := qB num) HUK.out (by rw [HA.out, HAL.out]; exact hk) (by rw [HNM.out]; rfl)
              rw [HA.out, HAL.out] at this
              exact this
            cases qk with
            | true =>
              have HX := Lib.hid (show ((u.take (k + 1)).any fun c => c != 39) = true by rw [any_take HUK.out, HQK.out]; rfl)
              go_wp2_with fail
              go_roundw
              case rel => exact ⟨k + 1, by go_num, hk1, by rw [HX.out], by first | rfl | trivial⟩
              case measure => simp [intOf]; omega
            | false =>
              have HX := Lib.hid (show ((u.take (k + 1)).any fun c => c != 39) = true by rw [any_take HUK.out, HQK.out]; rfl)
              go_wp2_with fail
              go_roundw
              case rel => exact ⟨k + 1, by go_num, hk1, by rw [HX.out], by first | rfl | trivial⟩
              case measure => simp [intOf]; omega
          have j4 : ((c.toNat : Int) == 35) = false := byte_ne h35
          have HNQ := Lib.hid (show qB num c = false by unfold qB; rw [beq_eq_false_iff_ne.2 h39, beq_eq_false_iff_ne.2 h123, beq_eq_false_iff_ne.2 h125, beq_eq_false_iff_ne.2 h35]; rfl)
          clear h39 h123 h125 h35
          have hke : k = al := by
            have := takeWhile_stop (p := qB num) HUK.out (by rw [HA.out, HAL.out]; exact hk) HNQ.out
            rw [HA.out, HAL.out] at this
            exact this
          have HE := Lib.hid (show qk = qa by
            rw [← HQK.out, hke, ← HQA.out, ← HA.out]
            have : (u.takeWhile (qB num)).length = al := by rw [HA.out, HAL.out]
            rw [← this, ← (List.prefix_iff_eq_take.1 (List.takeWhile_prefix _))])
          subst hke
          go_wp2
          go_meet
          case rel => exact ⟨by first | rfl | trivial, by rw [HE.out], by first | rfl | trivial⟩
        · have hke : k = al := by omega
          have HE := Lib.hid (show ((u.take k).any fun c => c != 39) = qa by
            rw [hke, ← HQA.out, ← HA.out]
            have : (u.takeWhile (qB num)).length = al := by rw [HA.out, HAL.out]
            rw [← this, ← (List.prefix_iff_eq_take.1 (List.takeWhile_prefix _))])
          have HQE := Lib.hid (show qk = qa by rw [← HQK.out]; exact HE.out)
          subst hke
          go_wp2
          go_meet
          case rel => exact ⟨by first | rfl | trivial, by rw [HQE.out], by first | rfl | trivial⟩
set_option maxHeartbeats 8000000 in
theorem written_false (s : Wd) (num : Bool) (hnm : num = false) (w : World) (hs : s.length ≤ 1000000) :
    Calls Tryz.prog 29 #[strv s, .bool false] w fun e w' => e = .returned (strv (wrT num s)) ∧ Below w.heap.size w w' := by
  have HNM := Lib.hid hnm
  have HSL := Lib.hid hs
  obtain ⟨F, hF⟩ : ∃ F, wrT num s = F := ⟨_, rfl⟩
  have hFl : F.length ≤ 4000000 := by rw [← hF]; have := wrG_len num s.length s; unfold wrT; omega
  rw [hF]
  have HF := Lib.hid hF
  have HFL := Lib.hid hFl
  have HRF := Lib.hid (Below.refl w.heap.size w)
  clear hs hF hFl hnm
  go_enter Tryz.func29, Tryz.ntmps29
  go_wp2_with fail
  go_loopw [0, 5] (fun sv tv wr => ∃ u acc, sv = strv u ∧ tv = strv acc ∧ u.length ≤ s.length ∧ acc ++ wrT num u = F ∧ Below w.heap.size w wr) (fun sv _ _ => szW sv)
  case atStart => exact ⟨s, [], rfl, rfl, Nat.le_refl _, HF.out, HRF.out⟩
  case round =>
    obtain ⟨u, acc, rfl, rfl, hul, heq, hbr⟩ := hrel
    have HBR := Lib.hid hbr
    have HEQ := Lib.hid heq
    have hul2 : u.length ≤ 1000000 := Nat.le_trans hul HSL.out
    have HUL := Lib.hid hul
    obtain ⟨ul, hulN⟩ : ∃ n, u.length = n := ⟨_, rfl⟩
    have HULN := Lib.hid hulN
    rw [hulN] at hul2
    have usz : (⟨u.toArray⟩ : ByteArray).size = ul := by rw [size_mk]; exact hulN
    clear hbr heq hul hulN
    by_cases hu : u = []
    · have HE := Lib.hid (show acc = F by have := HEQ.out; rw [hu, wrT_nil, List.append_nil] at this; exact this)
      have u0 : ul = 0 := by rw [← HULN.out, hu]; rfl
      subst u0
      subst hu
      clear usz
      go_wp2
      go_ret
      exact ⟨by rw [← HE.out]; rfl, HBR.out⟩
    · have hup : 0 < ul := by rw [← HULN.out]; exact List.length_pos_iff.2 hu
      have hupI : (0 : Int) < (ul : Int) := by omega
      have hacc : acc.length ≤ 4000000 := by
        have h1 := congrArg List.length HEQ.out
        rw [List.length_append] at h1
        have := HFL.out
        omega
      have HU := Lib.hid hu
      clear hu
      obtain ⟨a, ha⟩ : ∃ a, u.takeWhile (qB num) = a := ⟨_, rfl⟩
      obtain ⟨al, hal⟩ : ∃ n, a.length = n := ⟨_, rfl⟩
      have hau : al ≤ ul := by rw [← hal, ← HULN.out, ← ha]; exact (List.takeWhile_prefix _).length_le
      have HA := Lib.hid ha
      have HAL := Lib.hid hal
      obtain ⟨qa, hqa⟩ : ∃ x, (a.any fun c => c != 39) = x := ⟨_, rfl⟩
      have HQA := Lib.hid hqa
      clear ha hal hqa
      go_upto_block 2 with fail
      go_cut [6, 7] (fun nv qv wc => nv = .int .i64 (al : Nat) ∧ qv = .bool qa ∧ wc = wr)
      case rest =>
        obtain ⟨rfl, rfl, hwc⟩ := hcut
        have hwc := hwc.symm
        subst hwc
        obtain ⟨c0, u1, rfl⟩ : ∃ c t, u = c :: t := by
          cases u with
          | nil => exact absurd rfl HU.out
          | cons c t => exact ⟨c, t, rfl⟩
        have hcat : ¬ 9223372036854775807 < acc.length + 1 := by omega
        by_cases h0 : al = 0
        · have ha0 : a = [] := List.eq_nil_of_length_eq_zero (HAL.out.trans h0)
          have HEQ2 := Lib.hid (show (acc ++ [c0]) ++ wrT num u1 = F by
            rw [← HEQ.out, wrT_head (HA.out.trans ha0), List.append_assoc]
            rfl)
          have hx1 : (⟨(c0 :: u1).toArray⟩ : ByteArray).extract 0 1 = ⟨[c0].toArray⟩ := by rw [ext_take]; rfl
          have HX2 := Lib.hid (show (⟨(c0 :: u1).toArray⟩ : ByteArray).extract 1 ul = ⟨u1.toArray⟩ by
            have := ext_drop (c0 :: u1) 1
            rw [HULN.out] at this
            exact this)
          have hul1 : (1 : Int) ≤ (ul : Int) := by omega
          subst h0
          go_wp2_with fail
          rw [HX2.out]
          go_roundw
          case rel => exact ⟨u1, acc ++ [c0], rfl, by first | rfl | (show Value.string _ = Value.string _; congr 1; apply ByteArray.ext; simp), by have := HUL.out; simp at this; omega, HEQ2.out, HBR.out⟩
          case measure =>
            simp only [szW, strv]
            rw [size_mk, size_mk]
            simp
        · have hal1 : (al : Int) ≠ 0 := by omega
          have j0 : ((al : Int) == 0) = false := by simp; omega
          obtain ⟨qs, hqs⟩ : ∃ x : Wd, (if qa = true then [39] else []) = x := ⟨_, rfl⟩
          have hqsl : qs.length ≤ 1 := by rw [← hqs]; split <;> simp
          have hrun : qs ++ dblL a ++ qs = runQ a := by
            unfold runQ
            rw [HQA.out, ← hqs]
            cases qa <;> simp
          have hane : a ≠ [] := fun e => h0 (by rw [← HAL.out, e]; rfl)
          have hrl := runQ_len a hane
          have hdl := dbl_len a
          have hFe : acc ++ (runQ a ++ wrT num ((c0 :: u1).drop al)) = F := by
            have h1 := wrT_run (num := num) (s := c0 :: u1) (by rw [HA.out]; exact hane)
            rw [HA.out, HAL.out] at h1
            rw [← h1]
            exact HEQ.out
          have HFE := Lib.hid hFe
          have HRUN := Lib.hid hrun
          have HQS := Lib.hid hqs
          have hall : a.length ≤ 1000000 := by rw [HAL.out]; omega
          have hdl2 : (dblL a).length ≤ 2000000 := by omega
          have HDL := Lib.hid hdl2
          clear h0 hqs hrun hane hrl hdl hFe hall hdl2
          go_upto_if 61 with fail
          go_cut [8] (fun qv wc => qv = strv qs ∧ wc = wr)
          case first =>
            cases qa with
            | true =>
              have HZ := Lib.hid (show qs = [39] from HQS.out.symm)
              go_wp2_with fail
              go_meet
              case rel => exact ⟨by rw [HZ.out], rfl⟩
            | false =>
              have HZ := Lib.hid (show qs = [] from HQS.out.symm)
              go_wp2_with fail
              go_meet
              case rel => exact ⟨by rw [HZ.out], rfl⟩
          case rest =>
            obtain ⟨rfl, hwc⟩ := hcut
            have hwc := hwc.symm
            subst hwc
            have hcat2 : ¬ 9223372036854775807 < acc.length + qs.length := by omega
            obtain ⟨T0, hT0⟩ : ∃ x, acc ++ qs = x := ⟨_, rfl⟩
            have hT0l : T0.length ≤ 4000001 := by rw [← hT0, List.length_append]; omega
            have HT0 := Lib.hid hT0
            have HTB := Lib.hid (show Value.string ((⟨acc.toArray⟩ : ByteArray) ++ ⟨qs.toArray⟩) = strv T0 by rw [← hT0]; first | rfl | (show Value.string _ = Value.string _; congr 1; apply ByteArray.ext; simp))
            clear hT0
            go_wp2_with fail
            try rw [HTB.out]
            go_loopw [5, 9] (fun tv iv wq => ∃ k : Nat, tv = strv (T0 ++ dblL (a.take k)) ∧ iv = .int .i64 (k : Nat) ∧ k ≤ al ∧ wq = wr) (fun _ iv _ => al - (intOf iv).toNat)
            case atStart => exact ⟨0, by simp [dblL, ← HT0.out], rfl, Nat.zero_le _, by first | rfl | trivial⟩
            case round =>
              obtain ⟨k, rfl, rfl, hk, hwq⟩ := hrel
              have hwq := hwq.symm
              subst hwq
              obtain ⟨T, hT⟩ : ∃ x, T0 ++ dblL (a.take k) = x := ⟨_, rfl⟩
              have hTl : T.length ≤ 6000001 := by
                have h1 := dbl_len (a.take k)
                have h2 : (a.take k).length ≤ 1000000 := by rw [List.length_take, HAL.out]; omega
                rw [← hT, List.length_append]
                omega
              have HT := Lib.hid hT
              rw [hT]
              clear hT
              by_cases hlt : k < al
              · have hltI : (k : Int) < (al : Int) := by omega
                have hku : k < ul := by omega
                have hkuI : (k : Int) + 1 ≤ (ul : Int) := by omega
                have hku1 : k + 1 ≤ ul := by omega
                obtain ⟨c, hac⟩ : ∃ c, a[k]? = some c := ⟨a[k]'(by rw [HAL.out]; exact hlt), List.getElem?_eq_getElem _⟩
                have huc : (c0 :: u1)[k]? = some c := by
                  obtain ⟨h1, h2⟩ := List.getElem?_eq_some_iff.1 hac
                  have hpre : a <+: (c0 :: u1) := by rw [← HA.out]; exact List.takeWhile_prefix _
                  rw [List.getElem?_eq_getElem (by rw [HULN.out]; exact hku), ← hpre.getElem h1, h2]
                have HDB := Lib.hid (dbl_take hac)
                have hck : (⟨(c0 :: u1).toArray⟩ : ByteArray)[k]'(by rw [usz]; exact hku) = c := by
                  obtain ⟨h1, h2⟩ := List.getElem?_eq_some_iff.1 huc
                  rw [← h2]
                  rfl
                have hx1 := ext_one _ k c huc
                have HX1 := Lib.hid hx1
                clear hac huc
                have hcat3 : ¬ 9223372036854775807 < T.length + 1 := by omega
                have hcat4 : ¬ 9223372036854775807 < T.length + 1 + 1 := by omega
                by_cases h39 : c = 39
                · have HE := Lib.hid (show T0 ++ dblL (a.take (k + 1)) = T ++ [39] ++ [39] by rw [HDB.out, if_pos h39, ← List.append_assoc, HT.out, List.append_assoc]; rfl)
                  subst h39
                  go_wp2_with fail
                  go_roundw
                  case rel => exact ⟨k + 1, by rw [HE.out]; first | rfl | (show Value.string _ = Value.string _; congr 1; apply ByteArray.ext; simp), by go_num, by omega, by first | rfl | trivial⟩
                  case measure => simp [intOf]; omega
                · have HE := Lib.hid (show T0 ++ dblL (a.take (k + 1)) = T ++ [c] by rw [HDB.out, if_neg h39, ← List.append_assoc, HT.out])
                  have j1 : ((c.toNat : Int) == 39) = false := byte_ne h39
                  clear h39
                  go_wp2_with fail
                  go_roundw
                  case rel => exact ⟨k + 1, by rw [HE.out]; first | rfl | (show Value.string _ = Value.string _; congr 1; apply ByteArray.ext; simp), by go_num, by omega, by first | rfl | trivial⟩
                  case measure => simp [intOf]; omega
              · have hke : k = al := by omega
                have HE := Lib.hid (show T ++ qs = acc ++ runQ a by rw [← HT.out, hke, List.take_of_length_le (by rw [HAL.out]; exact Nat.le_refl _), ← HT0.out, ← HRUN.out]; simp)
                have HEQ3 := Lib.hid (show (T ++ qs) ++ wrT num ((c0 :: u1).drop al) = F by rw [HE.out, List.append_assoc]; exact HFE.out)
                have hcat5 : ¬ 9223372036854775807 < T.length + qs.length := by omega
                have HX2 := Lib.hid (show (⟨(c0 :: u1).toArray⟩ : ByteArray).extract al ul = ⟨((c0 :: u1).drop al).toArray⟩ by
                  have := ext_drop (c0 :: u1) al
                  rw [HULN.out] at this
                  exact this)
                have hauI : (al : Int) ≤ (ul : Int) := by omega
                subst hke
                go_wp2_with fail
                rw [HX2.out]
                go_roundw
                case rel => exact ⟨(c0 :: u1).drop k, T ++ qs, rfl, by first | rfl | (show Value.string _ = Value.string _; congr 1; apply ByteArray.ext; simp), by have := HUL.out; rw [List.length_drop]; omega, HEQ3.out, HBR.out⟩
                case measure =>
                  simp only [szW, strv]
                  rw [size_mk, size_mk, List.length_drop]
                  have := HULN.out
                  omega
      go_wp2_with fail
      go_loopw [6, 7] (fun nv qv wq => ∃ k : Nat, nv = .int .i64 (k : Nat) ∧ k ≤ al ∧ qv = .bool ((u.take k).any fun c => c != 39) ∧ wq = wr) (fun nv _ _ => ul - (intOf nv).toNat)
      case atStart => exact ⟨0, rfl, Nat.zero_le _, rfl, rfl⟩
      case round =>
        obtain ⟨k, rfl, hk, rfl, hwq⟩ := hrel
        have hwq := hwq.symm
        subst hwq
        obtain ⟨qk, hqk⟩ : ∃ x, ((u.take k).any fun c => c != 39) = x := ⟨_, rfl⟩
        have HQK := Lib.hid hqk
        rw [hqk]
        clear hqk
        by_cases hlt : k < ul
        · have hltI : (k : Int) < (ul : Int) := by omega
          have hku : k < u.length := by rw [HULN.out]; exact hlt
          have HKU := Lib.hid hku
          obtain ⟨c, hc⟩ : ∃ c, u[k] = c := ⟨_, rfl⟩
          have hck : (⟨u.toArray⟩ : ByteArray)[k]'(by rw [usz]; exact hlt) = c := by rw [← hc]; rfl
          have HUK := Lib.hid (show u[k]? = some c from (List.getElem?_eq_getElem HKU.out).trans (congrArg some hc))
          clear hc hku
          by_cases h39 : c = 39
          · subst h39
            have hk1 : k + 1 ≤ al := by
              have := takeWhile_more (p := qB num) HUK.out (by rw [HA.out, HAL.out]; exact hk) (by rfl)
              rw [HA.out, HAL.out] at this
              exact this
            cases qk with
            | true =>
              have HX := Lib.hid (show ((u.take (k + 1)).any fun c => c != 39) = true by rw [any_take HUK.out, HQK.out]; rfl)
              go_wp2_with fail
              go_roundw
              case rel => exact ⟨k + 1, by go_num, hk1, by rw [HX.out], by first | rfl | trivial⟩
              case measure => simp [intOf]; omega
            | false =>
              have HX := Lib.hid (show ((u.take (k + 1)).any fun c => c != 39) = false by rw [any_take HUK.out, HQK.out]; rfl)
              go_wp2_with fail
              go_roundw
              case rel => exact ⟨k + 1, by go_num, hk1, by rw [HX.out], by first | rfl | trivial⟩
              case measure => simp [intOf]; omega
          have j1 : ((c.toNat : Int) == 39) = false := byte_ne h39
          have j1b : ((c.toNat : Int) != 39) = true := by rw [bne, j1]; rfl
          by_cases h123 : c = 123
          · subst h123
            have hk1 : k + 1 ≤ al := by
              have := takeWhile_more (p := qB num) HUK.out (by rw [HA.out, HAL.out]; exact hk) (by rfl)
              rw [HA.out, HAL.out] at this
              exact this
            cases qk with
            | true =>
              have HX := Lib.hid (show ((u.take (k + 1)).any fun c => c != 39) = true by rw [any_take HUK.out, HQK.out]; rfl)
              go_wp2_with fail
              go_roundw
              case rel => exact ⟨k + 1, by go_num, hk1, by rw [HX.out], by first | rfl | trivial⟩
              case measure => simp [intOf]; omega
            | false =>
              have HX := Lib.hid (show ((u.take (k + 1)).any fun c => c != 39) = true by rw [any_take HUK.out, HQK.out]; rfl)
              go_wp2_with fail
              go_roundw
              case rel => exact ⟨k + 1, by go_num, hk1, by rw [HX.out], by first | rfl | trivial⟩
              case measure => simp [intOf]; omega
          have j2 : ((c.toNat : Int) == 123) = false := byte_ne h123
          by_cases h125 : c = 125
          · subst h125
            have hk1 : k + 1 ≤ al := by
              have := takeWhile_more (p := qB num) HUK.out (by rw [HA.out, HAL.out]; exact hk) (by rfl)
              rw [HA.out, HAL.out] at this
              exact this
            cases qk with
            | true =>
              have HX := Lib.hid (show ((u.take (k + 1)).any fun c => c != 39) = true by rw [any_take HUK.out, HQK.out]; rfl)
              go_wp2_with fail
              go_roundw
              case rel => exact ⟨k + 1, by go_num, hk1, by rw [HX.out], by first | rfl | trivial⟩
              case measure => simp [intOf]; omega
            | false =>
              have HX := Lib.hid (show ((u.take (k + 1)).any fun c => c != 39) = true by rw [any_take HUK.out, HQK.out]; rfl)
              go_wp2_with fail
              go_roundw
              case rel => exact ⟨k + 1, by go_num, hk1, by rw [HX.out], by first | rfl | trivial⟩
              case measure => simp [intOf]; omega
          have j3 : ((c.toNat : Int) == 125) = false := byte_ne h125
          by_cases h35 : c = 35
          · have HNQ := Lib.hid (show qB num c = false by rw [h35, HNM.out]; rfl)
            subst h35
            have hke : k = al := by
              have := takeWhile_stop (p := qB num) HUK.out (by rw [HA.out, HAL.out]; exact hk) HNQ.out
              rw [HA.out, HAL.out] at this
              exact this
            have HE := Lib.hid (show qk = qa by
              rw [← HQK.out, hke, ← HQA.out, ← HA.out]
              have : (u.takeWhile (qB num)).length = al := by rw [HA.out, HAL.out]
              rw [← this, ← (List.prefix_iff_eq_take.1 (List.takeWhile_prefix _))])
            subst hke
            go_wp2
            go_meet
            case rel => exact ⟨by first | rfl | trivial, by rw [HE.out], by first | rfl | trivial⟩
          have j4 : ((c.toNat : Int) == 35) = false := byte_ne h35
          have HNQ := Lib.hid (show qB num c = false by unfold qB; rw [beq_eq_false_iff_ne.2 h39, beq_eq_false_iff_ne.2 h123, beq_eq_false_iff_ne.2 h125, beq_eq_false_iff_ne.2 h35]; rfl)
          clear h39 h123 h125 h35
          have hke : k = al := by
            have := takeWhile_stop (p := qB num) HUK.out (by rw [HA.out, HAL.out]; exact hk) HNQ.out
            rw [HA.out, HAL.out] at this
            exact this
          have HE := Lib.hid (show qk = qa by
            rw [← HQK.out, hke, ← HQA.out, ← HA.out]
            have : (u.takeWhile (qB num)).length = al := by rw [HA.out, HAL.out]
            rw [← this, ← (List.prefix_iff_eq_take.1 (List.takeWhile_prefix _))])
          subst hke
          go_wp2
          go_meet
          case rel => exact ⟨by first | rfl | trivial, by rw [HE.out], by first | rfl | trivial⟩
        · have hke : k = al := by omega
          have HE := Lib.hid (show ((u.take k).any fun c => c != 39) = qa by
            rw [hke, ← HQA.out, ← HA.out]
            have : (u.takeWhile (qB num)).length = al := by rw [HA.out, HAL.out]
            rw [← this, ← (List.prefix_iff_eq_take.1 (List.takeWhile_prefix _))])
          have HQE := Lib.hid (show qk = qa by rw [← HQK.out]; exact HE.out)
          subst hke
          go_wp2
          go_meet
          case rel => exact ⟨by first | rfl | trivial, by rw [HQE.out], by first | rfl | trivial⟩
theorem written_any (s : Wd) (num : Bool) (w : World) (hs : s.length ≤ 1000000) :
    Calls Tryz.prog 29 #[strv s, .bool num] w fun e w' => e = .returned (strv (wrT num s)) ∧ Below w.heap.size w w' := by
  cases num with
  | true => exact written_true s true rfl w hs
  | false => exact written_false s false rfl w hs
end Go.Proofs.YtdelpialeajajaaGreatDoor

/- The document's Names. -/
namespace Go.Proofs.YtdelpialeajajaaGreatDoor
open Go Go.RowKit
set_option maxRecDepth 10000

def nameD (s : ByteArray) (m : Mk) : List (Wd × Nat) := if m.name = [] then [] else [(m.name, countD s m.pl)]
def namesD (s : ByteArray) (l : List Mk) : List (Wd × Nat) := l.flatMap (nameD s)
theorem nameD_len (s : ByteArray) (m : Mk) : (nameD s m).length ≤ 1 := by
  unfold nameD
  split
  · exact Nat.zero_le _
  · exact Nat.le_refl _

theorem own_lift {W : World} {a b : Nat} {e : TypeId} {size n : Nat} {v : Value} {xs : List Value} (h : W.ownsRow b e size v n xs) (hab : a ≤ b) : W.ownsRow a e size v n xs := by
  obtain ⟨h1, h2⟩ := h
  refine ⟨h1, ?_⟩
  rcases h2 with h2 | ⟨g, cap, cur, hv, hg, rest⟩
  · exact .inl h2
  · exact .inr ⟨g, cap, cur, hv, Nat.le_trans hab hg, rest⟩

/-- two rows of the call's own, apart -/
structure TwoR (A : Nat) (wr : World) (vo vp : Value) (acc : List (Wd × Nat)) : Prop where
  o : wr.ownsRow A 9 1 vo acc.length (acc.map fun x => strv x.1)
  p : wr.ownsRow A 3 1 vp acc.length (acc.map fun x => Value.int .i64 (x.2 : Nat))
  d : ∀ g, vo.ownBlock = some g → vp.ownBlock ≠ some g
theorem TwoR.below {A : Nat} {w w' : World} {vo vp : Value} {acc : List (Wd × Nat)} (h : TwoR A w vo vp acc) (hb : Below w.heap.size w w') : TwoR A w' vo vp acc := ⟨own_below h.o hb, own_below h.p hb, h.d⟩

def NamesQ (s : ByteArray) (w : World) (e : Ending) (w' : World) : Prop :=
  ∃ vo vp, e = .returned (.tuple #[vo, vp, .int .i64 ((readD s).2.1 : Nat), .int .i64 ((readD s).2.2 : Nat)]) ∧ TwoR w.heap.size w' vo vp (namesD s (readD s).1) ∧ Below w.heap.size w w'

structure NmI (s : ByteArray) (A : Nat) (w : World) (l : List Mk) (i : Nat) (vo vp : Value) (acc : List (Wd × Nat)) (wr : World) : Prop where
  two : TwoR A wr vo vp acc
  below : Below A w wr
  eq : acc = namesD s (l.take i)
  len : acc.length ≤ i

set_option maxHeartbeats 8000000 in
theorem names_any (s : ByteArray) (w : World) (hs : s.size ≤ 1000000000) (hok : 1000 < s.size ∨ (ptsL s.data.toList).2 < s.size ∨ RdOk s) (hpl : ∀ m ∈ (readD s).1, m.pl ≤ s.size) (hln : (readD s).1.length ≤ 1000000) : Calls Tryz.prog 12 #[.string s] w (NamesQ s w) := by
  have HRD := Lib.hid (readD_any s w hs hok)
  obtain ⟨⟨l, e0, a0⟩, hr⟩ : ∃ x, readD s = x := ⟨_, rfl⟩
  have HR := Lib.hid hr
  have HRD := Lib.hid (show Calls Tryz.prog 22 #[.string s] w fun e w' => ∃ v, e = .returned (.tuple #[v, .int .i64 (e0 : Nat), .int .i64 (a0 : Nat)]) ∧ MarksAt w' v l ∧ Below w.heap.size w w' from HRD.out.mono (by
    rintro e w' ⟨v, rfl, h1, h2⟩
    rw [hr] at h1 ⊢
    exact ⟨v, rfl, h1, h2⟩))
  rw [hr] at hpl hln
  have HPL := Lib.hid hpl
  obtain ⟨A, hA⟩ : ∃ A, w.heap.size = A := ⟨_, rfl⟩
  have HA := Lib.hid hA
  clear hr hpl hok hA
  go_enter Tryz.func12, Tryz.ntmps12
  go_wp2_with fail
  refine HRD.out.mono ?_
  rintro e w2 ⟨v, rfl, hm, hb⟩
  obtain ⟨ma, mc, rfl⟩ := hm.sl
  have HM := Lib.hid hm
  obtain ⟨n, hn⟩ : ∃ n, l.length = n := ⟨_, rfl⟩
  have HN := Lib.hid hn
  rw [hn] at hln ⊢
  have hbA : Below A w w2 := by have := hb; rw [HA.out] at this; exact this
  have HB := Lib.hid hbA
  have HRW := Lib.hid (fun h => hm.row h)
  have hAs : A ≤ w2.heap.size := by have := hb.size; have := HA.out; omega
  obtain ⟨B, hB⟩ : ∃ B, w2.heap.size = B := ⟨_, rfl⟩
  have HBB := Lib.hid hB
  rw [hB] at hAs
  have HRF := Lib.hid (show Below B w2 w2 from Below.refl _ _)
  clear hm hb hbA hn hB
  go_wp2_with fail
  go_loopw [9, 10, 11] (fun vo vp iv wr => ∃ (i : Nat) (acc : List (Wd × Nat)), iv = .int .i64 (i : Nat) ∧ i ≤ n ∧ NmI s B w2 l i vo vp acc wr) (fun _ _ iv _ => n - (intOf iv).toNat)
  case atStart => exact ⟨0, [], rfl, Nat.zero_le _, ⟨⟨World.ownsRow_nil _ _ _ _, World.ownsRow_nil _ _ _ _, fun g h => by cases h⟩, HRF.out, rfl, Nat.zero_le _⟩⟩
  case round =>
    obtain ⟨i, acc, rfl, hi, hq⟩ := hrel
    have hbr := hq.below
    have HQ := Lib.hid hq
    have HBR := Lib.hid hbr
    have hal := hq.len
    obtain ⟨na, hna⟩ : ∃ n, acc.length = n := ⟨_, rfl⟩
    have HNA := Lib.hid hna
    rw [hna] at hal
    have ho := hq.two.o
    have hp := hq.two.p
    rw [hna] at ho hp
    obtain ⟨oa, oc, rfl⟩ := own_slice ho
    obtain ⟨pa, pc, rfl⟩ := own_slice hp
    have HO := Lib.hid ho
    have HP := Lib.hid hp
    have HD := Lib.hid hq.two.d
    have hBr : B ≤ wr.heap.size := HBB.out ▸ hbr.size
    have HBR2 := Lib.hid (show Below w2.heap.size w2 wr from HBB.out.symm ▸ hbr)
    clear hq hbr hna ho hp
    by_cases hlt : i < n
    · have hltI : (i : Int) < (n : Int) := by omega
      have hil : i < l.length := by rw [HN.out]; exact hlt
      obtain ⟨g, cap', hg1, hrow⟩ := HRW.out (by omega)
      rw [HN.out] at hg1
      obtain rfl : ma = some ⟨g, 0, none⟩ := by cases hg1; rfl
      clear hg1
      have HROW := Lib.hid hrow
      obtain ⟨-, -, c2, -, -, c5⟩ := (hrow.below HBR2.out).at_ i hil
      obtain ⟨m, hm⟩ : ∃ m, mkA l i = m := ⟨_, rfl⟩
      rw [hm] at c2 c5
      have HMK := Lib.hid (show l[i] = m by rw [← mkA_lt hil]; exact hm)
      obtain ⟨nm, hnm⟩ : ∃ t, m.name = t := ⟨_, rfl⟩
      obtain ⟨pl, hpl⟩ : ∃ t, m.pl = t := ⟨_, rfl⟩
      rw [hnm] at c2
      rw [hpl] at c5
      have hpls : pl ≤ s.size := by rw [← hpl]; exact HPL.out m (HMK.out ▸ List.getElem_mem hil)
      have hplsI : (pl : Int) ≤ (s.size : Int) := by omega
      have HTK := Lib.hid (show namesD s (l.take (i + 1)) = acc ++ nameD s m by
        rw [List.take_succ_eq_append_getElem hil, HQ.out.eq, HMK.out]
        simp [namesD])
      have HNM := Lib.hid hnm
      have HPLM := Lib.hid hpl
      have HC5 := Lib.hid c5
      have HC2 := Lib.hid c2
      clear hrow hm hnm hpl
      by_cases h0 : nm = []
      · have HE := Lib.hid (show nameD s m = [] by unfold nameD; rw [HNM.out, if_pos h0])
        subst h0
        clear c5
        go_wp2_with fail
        go_roundw
        case rel => exact ⟨i + 1, acc, by go_num, by omega, ⟨⟨HNA.out ▸ HO.out, HNA.out ▸ HP.out, HD.out⟩, HQ.out.below, by rw [HTK.out, HE.out, List.append_nil], by rw [HNA.out]; omega⟩⟩
        case measure => simp [intOf]; omega
      · have g0 : List.isEmpty nm = false := by cases nm with | nil => exact absurd rfl h0 | cons _ _ => rfl
        have g1 : (nm == []) = false := beq_eq_false_iff_ne.2 h0
        have g2 : (nm != []) = true := by rw [bne, g1]; rfl
        have HE := Lib.hid (show nameD s m = [(nm, countD s pl)] by unfold nameD; rw [HNM.out, if_neg h0, HPLM.out])
        clear h0
        go_wp2_with (at_builtin; refine list_gen ?_)
        intro W1 hW1
        have hb1 : Below wr.heap.size wr W1 := by rw [hW1]; exact (Below.refl _ _).alloc (Nat.le_refl _) _
        have hC := fun i => cell_made wr #[strv nm] 9 (0, 0) i
        rw [← hW1] at hC
        have s1 : W1.heap.size = wr.heap.size + 1 := by rw [hW1]; simp
        have HB1 := Lib.hid hb1
        have HO1 := Lib.hid (own_below HO.out hb1)
        clear hW1 hb1
        refine app_at elem_strs rfl _ _ rfl B _ na (acc.map fun x : Wd × Nat => strv x.1) rfl HO1.out ⟨wr.heap.size, 0, none⟩ 1 1 [strv nm] rfl rfl ?x1 ?x2 (by omega) (by omega) ?x3
        case x1 => exact cells_one (hC 0)
        case x2 =>
          intro u hu
          simp at hu
          subst hu
          rfl
        intro vo' W2 ho2 hg2 hat2
        obtain ⟨oa2, oc2, rfl⟩ := own_slice ho2
        have hb2 : Below B w2 W2 := ((HBR.out.trans (HB1.out.mono hBr))).grown hg2 (by omega) (fun q hq => (HO1.out.lt q hq).1)
        have HP2 := Lib.hid (own_keptZ (own_below HP.out HB1.out) hg2 (fun q hq e => HD.out q e hq))
        have hd2 : ∀ q, (Value.slice oa2 (na + 1) oc2).ownBlock = some q → (Value.slice pa na pc).ownBlock ≠ some q := by
          intro q hq e
          rcases hat2 with k | k
          · rw [k] at hq
            exact HD.out q hq e
          · rw [k] at hq
            cases hq
            have := (HP.out.lt _ e).2
            omega
        have HD2 := Lib.hid hd2
        have HO2 := Lib.hid ho2
        have HB2 := Lib.hid hb2
        have c5 := ((HROW.out.below (HBB.out.symm ▸ hb2)).at_ i hil).2.2.2.2.2
        rw [mkA_lt hil, HMK.out, HPLM.out] at c5
        have hs2 : wr.heap.size ≤ W2.heap.size := by have := hg2.size; omega
        have HPT := Lib.hid (points_any ⟨(s.data.toList.take pl).toArray⟩ W2 (by show (s.data.toList.take pl).length ≤ 1000000000; rw [List.length_take, size_toList]; omega))
        obtain ⟨cn, hcn⟩ : ∃ c, countD s pl = c := ⟨_, rfl⟩
        have HCN := Lib.hid hcn
        have HPT := Lib.hid (show Calls Tryz.prog 26 #[.string (s.extract 0 pl)] W2 fun e w' => ∃ v x, e = .returned (.tuple #[v, .int .i64 (x : Nat)]) ∧ (∃ a c, v = .slice a cn c) ∧ Below W2.heap.size W2 w' by
          rw [extract_take, ← hcn]
          refine HPT.out.mono ?_
          rintro e w' ⟨v, rfl, h1, h2⟩
          exact ⟨v, _, rfl, own_slice h1, h2⟩)
        clear hb2 ho2 hg2 hat2 hd2 hC c2 hcn
        go_wp2_with fail
        refine HPT.out.mono ?_
        rintro e W3 ⟨u3, x3, rfl, ⟨va, vc, rfl⟩, hb3⟩
        have hsz2 : B ≤ W2.heap.size := by have := HB2.out.size; have := HBB.out; omega
        have HB3 := Lib.hid (HB2.out.trans (hb3.mono hsz2))
        have HO3 := Lib.hid (own_below HO2.out hb3)
        have HP3 := Lib.hid (own_below HP2.out hb3)
        have hs3 := hb3.size
        clear hb3 c5
        go_wp2_with (at_builtin; refine list_gen ?_)
        intro W4 hW4
        have hb4 : Below W3.heap.size W3 W4 := by rw [hW4]; exact (Below.refl _ _).alloc (Nat.le_refl _) _
        have hC := fun i => cell_made W3 #[.int .i64 (cn : Nat)] 3 (0, 0) i
        rw [← hW4] at hC
        have s4 : W4.heap.size = W3.heap.size + 1 := by rw [hW4]; simp
        have HO4 := Lib.hid (own_below HO3.out hb4)
        have HP4 := Lib.hid (own_below HP3.out hb4)
        have hsz3 : B ≤ W3.heap.size := by have := HB3.out.size; have := HBB.out; omega
        have HB4 := Lib.hid (HB3.out.trans (hb4.mono hsz3))
        clear hW4 hb4
        refine app_at elem_ints rfl _ _ rfl B _ na (acc.map fun x : Wd × Nat => Value.int .i64 (x.2 : Nat)) rfl HP4.out ⟨W3.heap.size, 0, none⟩ 1 1 [.int .i64 (cn : Nat)] rfl rfl ?y1 ?y2 (by omega) (by omega) ?y3
        case y1 => exact cells_one (hC 0)
        case y2 =>
          intro u hu
          simp at hu
          subst hu
          rfl
        intro vp' W5 hp5 hg5 hat5
        obtain ⟨pa2, pc2, rfl⟩ := own_slice hp5
        have HB5 := Lib.hid (HB4.out.grown hg5 (by omega) (fun q hq => (HP4.out.lt q hq).1))
        have HO5 := Lib.hid (own_keptZ HO4.out hg5 (fun q hq e => HD2.out q hq e))
        have hd5 : ∀ q, (Value.slice oa2 (na + 1) oc2).ownBlock = some q → (Value.slice pa2 (na + 1) pc2).ownBlock ≠ some q := by
          intro q hq e
          rcases hat5 with k | k
          · rw [k] at e
            exact HD2.out q hq e
          · rw [k] at e
            cases e
            have := (HO4.out.lt _ hq).2
            have := (HO3.out.lt _ hq).2
            omega
        have HD5 := Lib.hid hd5
        have HP5 := Lib.hid hp5
        clear hp5 hg5 hat5 hd5 hC
        go_wp2
        go_roundw
        case rel =>
          refine ⟨i + 1, acc ++ [(nm, cn)], by go_num, by omega, ⟨⟨?_, ?_, HD5.out⟩, HB5.out, by rw [HTK.out, HE.out, HCN.out], by simp [HNA.out]; omega⟩⟩
          · rw [show (acc ++ [(nm, cn)]).length = na + 1 by simp [HNA.out]]
            simpa using HO5.out
          · rw [show (acc ++ [(nm, cn)]).length = na + 1 by simp [HNA.out]]
            simpa using HP5.out
        case measure => simp [intOf]; omega
    · have hin : i = n := by omega
      subst hin
      have HF := Lib.hid (show acc = namesD s l by rw [HQ.out.eq, List.take_of_length_le (by rw [HN.out]; omega)])
      go_wp2
      refine bodyPost_ret (v := .tuple #[.slice oa na oc, .slice pa na pc, .int .i64 (e0 : Nat), .int .i64 (a0 : Nat)]) ?_ rfl ?_
      · simp [results, Tryz.results12, go_sem]
      unfold NamesQ
      rw [HR.out, ← HF.out, HA.out]
      exact ⟨_, _, rfl, ⟨own_lift (HNA.out ▸ HO.out) hAs, own_lift (HNA.out ▸ HP.out) hAs, HD.out⟩, HB.out.trans (HBR.out.mono hAs)⟩
end Go.Proofs.YtdelpialeajajaaGreatDoor
