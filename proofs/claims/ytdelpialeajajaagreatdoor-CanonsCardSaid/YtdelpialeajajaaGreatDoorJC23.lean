import Derived.Test.YtdelpialeajajaaGreatDoorJC22
import Derived.Recover

/- Faults of a message: the document's are the program's. -/
namespace Go.Proofs.YtdelpialeajajaaGreatDoor
open Go Go.RowKit
set_option maxRecDepth 10000

/-- a branch's selectors and places -/
def legsI : Fo → List (Wd × Nat)
  | .leg k a _ r => (k, a) :: legsI r
  | _ => []
def legMk (rs : List Int) (x : Wd × Nat) : Mk := ⟨91, x.1, [], [], [], offI rs x.2⟩
/-- where the branches stand -/
def brPos (rs : List Int) : Fo → Nat → List Nat
  | .leg _ _ m r, p => p :: brPos rs r (p + 1 + (marksF rs m).length + 1)
  | _, _ => []
/-- places within the text, names that are some; rows of branches -/
def Fo.fit (N : Nat) : Fo → Prop
  | .nil => True
  | .text _ r => r.fit N
  | .hash r => r.fit N
  | .put n a r => n ≠ [] ∧ a < N ∧ r.fit N
  | .num n a r => n ≠ [] ∧ a < N ∧ r.fit N
  | .br n a _ _ c bs r => n ≠ [] ∧ a < N ∧ c < N ∧ bs.isLegs = true ∧ bs.fit N ∧ r.fit N
  | .leg _ a m r => a < N ∧ m.fit N ∧ r.fit N

/-- faults at points, as at bytes -/
def updB (rs : List Int) (st x : Nat × Nat) : Nat × Nat := updF st x.1 (offI rs x.2)
/-- branches that stand twice -/
def twF : List Wd → List (Wd × Nat) → List (Nat × Nat)
  | _, [] => []
  | seen, x :: t => (if x.1 ∈ seen then [(7, x.2)] else []) ++ twF (x.1 :: seen) t
theorem twF_snoc (x : Wd × Nat) : ∀ (t : List (Wd × Nat)) (seen : List Wd), twF seen (t ++ [x]) = twF seen t ++ (if x.1 ∈ seen ∨ x.1 ∈ t.map (·.1) then [(7, x.2)] else [])
  | [], seen => by simp [twF]
  | y :: t, seen => by
    rw [List.cons_append, twF, twF_snoc x t, twF, List.append_assoc]
    congr 2
    simp only [List.mem_cons, List.map_cons]
    have : (x.1 = y.1 ∨ x.1 ∈ seen) ∨ x.1 ∈ t.map (·.1) ↔ x.1 ∈ seen ∨ x.1 = y.1 ∨ x.1 ∈ t.map (·.1) := by
      constructor
      · rintro ((h | h) | h)
        · exact .inr (.inl h)
        · exact .inl h
        · exact .inr (.inr h)
      · rintro (h | h | h)
        · exact .inl (.inr h)
        · exact .inl (.inl h)
        · exact .inr h
    simp only [this]
theorem bGo_tw (cl : Nat) : ∀ (f : Fo) (seen : List Wd) (acc : List (Nat × Nat)), f.isLegs = true → bGo cl seen acc f = acc ++ twF seen (legsI f) ++ (if othW ∈ seen ∨ othW ∈ (legsI f).map (·.1) then [] else [(6, cl)])
  | .nil, seen, acc, _ => by
    simp only [bGo, legsI, twF, List.append_nil, List.map_nil, List.not_mem_nil, or_false]
    split <;> simp
  | .leg k a m r, seen, acc, h => by
    rw [bGo, bGo_tw cl r _ _ h]
    simp only [legsI, twF, List.map_cons, List.mem_cons]
    have : (othW = k ∨ othW ∈ seen) ∨ othW ∈ (legsI r).map (·.1) ↔ othW ∈ seen ∨ othW = k ∨ othW ∈ (legsI r).map (·.1) := by
      constructor
      · rintro ((h | h) | h)
        · exact .inr (.inl h)
        · exact .inl h
        · exact .inr (.inr h)
      · rintro (h | h | h)
        · exact .inl (.inr h)
        · exact .inl (.inl h)
        · exact .inr h
    simp only [this]
    by_cases hk : k ∈ seen
    · simp [hk]
    · simp [hk]
  | .text _ _, _, _, h => by cases h
  | .hash _, _, _, h => by cases h
  | .put _ _ _, _, _, h => by cases h
  | .num _ _ _, _, _, h => by cases h
  | .br _ _ _ _ _ _ _, _, _, h => by cases h

/-- a row of marks that is a message's: nothing ends in it -/
theorem endGo_marks (rs : List Int) (T : List Mk) : ∀ (f : Fo) (d : Int) (i : Nat), 1 ≤ d → endGo (marksF rs f ++ T) d i = endGo T d (i + (marksF rs f).length)
  | .nil, d, i, h => rfl
  | .text t r, d, i, h => by
    have ih := endGo_marks rs T r d (i + 1) h
    rw [marksF, List.cons_append, endGo, if_neg (by show ¬ d = 0; omega)]
    show endGo _ d (i + 1) = _
    rw [ih, List.length_cons, Nat.add_right_comm, Nat.add_assoc]
  | .hash r, d, i, h => by
    have ih := endGo_marks rs T r d (i + 1) h
    rw [marksF, List.cons_append, endGo, if_neg (by show ¬ d = 0; omega)]
    show endGo _ d (i + 1) = _
    rw [ih, List.length_cons, Nat.add_right_comm, Nat.add_assoc]
  | .put n a r, d, i, h => by
    have ih := endGo_marks rs T r d (i + 1) h
    rw [marksF, List.cons_append, endGo, if_neg (by show ¬ d = 0; omega)]
    show endGo _ d (i + 1) = _
    rw [ih, List.length_cons, Nat.add_right_comm, Nat.add_assoc]
  | .num n a r, d, i, h => by
    have ih := endGo_marks rs T r d (i + 1) h
    rw [marksF, List.cons_append, endGo, if_neg (by show ¬ d = 0; omega)]
    show endGo _ d (i + 1) = _
    rw [ih, List.length_cons, Nat.add_right_comm, Nat.add_assoc]
  | .br n a f o c bs r, d, i, h => by
    have ih := endGo_marks rs (⟨41, [], [], [], [], offI rs c⟩ :: (marksF rs r ++ T)) bs (d + 1) (i + 1) (by omega)
    have ih2 := endGo_marks rs T r d (i + 1 + (marksF rs bs).length + 1) h
    rw [marksF, List.cons_append, endGo, if_neg (by show ¬ d + 1 = 0; omega)]
    show endGo _ (d + 1) (i + 1) = _
    rw [List.append_assoc, List.cons_append, ih, endGo, if_neg (by show ¬ d + 1 - 1 = 0; omega)]
    show endGo _ (d + 1 - 1) _ = _
    rw [show d + 1 - 1 = d by omega, ih2]
    congr 1
    simp only [List.length_cons, List.length_append]
    omega
  | .leg k a m r, d, i, h => by
    have ih := endGo_marks rs (⟨93, [], [], [], [], 0⟩ :: (marksF rs r ++ T)) m (d + 1) (i + 1) (by omega)
    have ih2 := endGo_marks rs T r d (i + 1 + (marksF rs m).length + 1) h
    rw [marksF, List.cons_append, endGo, if_neg (by show ¬ d + 1 = 0; omega)]
    show endGo _ (d + 1) (i + 1) = _
    rw [List.append_assoc, List.cons_append, ih, endGo, if_neg (by show ¬ d + 1 - 1 = 0; omega)]
    show endGo _ (d + 1 - 1) _ = _
    rw [show d + 1 - 1 = d by omega, ih2]
    congr 1
    simp only [List.length_cons, List.length_append]
    omega
/-- where what opens ends -/
theorem endL_at (rs : List Int) (P T : List Mk) (m z : Mk) (f : Fo) (hm : opens m = true) (hz : opens z = false) (hz2 : shuts z = true) : endL (P ++ m :: (marksF rs f ++ z :: T)) P.length = P.length + 1 + (marksF rs f).length := by
  unfold endL
  rw [List.drop_left, endGo, if_neg (by unfold deepD; rw [if_pos hm]; decide)]
  rw [show deepD m 0 = 1 by unfold deepD; rw [if_pos hm]; rfl, endGo_marks rs _ f 1 _ (Int.le_refl _), endGo, if_pos (by unfold deepD; rw [if_neg (by rw [hz]; decide), if_pos hz2]; rfl)]

/-- the branches' places -/
theorem brGo_pos (rs : List Int) (T : List Mk) : ∀ (bs : Fo) (P : List Mk) (n : Nat), bs.isLegs = true → (legsI bs).length < n →
    brGo (P ++ (marksF rs bs ++ T)) (P.length + (marksF rs bs).length) n P.length = brPos rs bs P.length ∧ (brPos rs bs P.length).map (mkA (P ++ (marksF rs bs ++ T))) = (legsI bs).map (legMk rs)
  | .nil, P, n, _, hn => by
    cases n with
    | zero => exact absurd hn (Nat.not_lt_zero _)
    | succ n =>
      rw [brGo, if_neg (by simp [marksF])]
      exact ⟨rfl, rfl⟩
  | .leg k a m r, P, n, h, hn => by
    cases n with
    | zero => exact absurd hn (Nat.not_lt_zero _)
    | succ n =>
      have he : P ++ (marksF rs (.leg k a m r) ++ T) = P ++ (legMk rs (k, a) :: (marksF rs m ++ ⟨93, [], [], [], [], 0⟩ :: (marksF rs r ++ T))) := by simp [marksF, legMk]
      have he2 : P ++ (marksF rs (.leg k a m r) ++ T) = (P ++ legMk rs (k, a) :: (marksF rs m ++ [⟨93, [], [], [], [], 0⟩])) ++ (marksF rs r ++ T) := by simp [marksF, legMk]
      have hl2 : (P ++ legMk rs (k, a) :: (marksF rs m ++ [⟨93, [], [], [], [], 0⟩])).length = P.length + 1 + (marksF rs m).length + 1 := by simp; omega
      have hlen : P.length + (marksF rs (.leg k a m r)).length = P.length + 1 + (marksF rs m).length + 1 + (marksF rs r).length := by simp [marksF]; omega
      have hend : endL (P ++ (marksF rs (.leg k a m r) ++ T)) P.length = P.length + 1 + (marksF rs m).length := by
        rw [he]
        exact endL_at rs P _ _ _ m rfl rfl rfl
      have ih := brGo_pos rs T r (P ++ legMk rs (k, a) :: (marksF rs m ++ [⟨93, [], [], [], [], 0⟩])) n h (by simp [legsI] at hn; omega)
      rw [hl2, ← he2] at ih
      rw [brGo, if_pos (by rw [hlen]; omega), hend, hlen, ih.1, brPos, legsI, List.map_cons, List.map_cons, ih.2]
      refine ⟨rfl, ?_⟩
      congr 1
      rw [he]
      unfold mkA
      rw [List.getD_eq_getElem?_getD, List.getElem?_append_right (Nat.le_refl _), Nat.sub_self]
      rfl
  | .text _ _, _, _, h, _ => by cases h
  | .hash _, _, _, h, _ => by cases h
  | .put _ _ _, _, _, h, _ => by cases h
  | .num _ _ _, _, _, h, _ => by cases h
  | .br _ _ _ _ _ _ _, _, _, h, _ => by cases h
theorem legsI_le (rs : List Int) : ∀ f : Fo, (legsI f).length ≤ (marksF rs f).length
  | .leg k a m r => by
    have := legsI_le rs r
    simp only [legsI, marksF, List.length_cons, List.length_append]
    omega
  | .nil => Nat.le_refl _
  | .text _ _ => Nat.zero_le _
  | .hash _ => Nat.zero_le _
  | .put _ _ _ => Nat.zero_le _
  | .num _ _ _ => Nat.zero_le _
  | .br _ _ _ _ _ _ _ => Nat.zero_le _

/-- what stands twice -/
theorem twGo_tw (rs : List Int) (L : List Mk) (ps : List Nat) (xs : List (Wd × Nat)) (h : ps.map (mkA L) = xs.map (legMk rs)) : ∀ (n : Nat) (st : Nat × Nat), n ≤ ps.length → twGo L ps n st = (twF [] (xs.take n)).foldl (updB rs) st
  | 0, st, _ => rfl
  | n + 1, st, hn => by
    have hlen : ps.length = xs.length := by simpa using congrArg List.length h
    have hx : n < xs.length := by omega
    have hat : ∀ j (hj : j < ps.length) (hj2 : j < xs.length), mkA L ps[j] = legMk rs xs[j] := fun j hj hj2 => by
      have h1 : (ps.map (mkA L))[j]'(by simpa using hj) = (xs.map (legMk rs))[j]'(by simpa using hj2) := by simp only [h]
      simpa using h1
    rw [twGo, twGo_tw rs L ps xs h n st (by omega), List.take_succ_eq_append_getElem hx, twF_snoc, List.foldl_append]
    unfold twA
    have e1 : ps.getD n 0 = ps[n] := by rw [List.getD_eq_getElem?_getD, List.getElem?_eq_getElem (by omega)]; rfl
    rw [e1, hat n (by omega) hx]
    have e2 : (ps.take n).any (sameT L ps[n]) = true ↔ xs[n].1 ∈ [] ∨ xs[n].1 ∈ (xs.take n).map (·.1) := by
      simp only [List.not_mem_nil, false_or]
      rw [List.any_eq_true, List.mem_map]
      constructor
      · rintro ⟨p, hp, hs⟩
        obtain ⟨j, hj, rfl⟩ := List.getElem_of_mem hp
        simp only [List.length_take] at hj
        refine ⟨xs[j]'(by omega), List.mem_take_iff_getElem.2 ⟨j, by omega, rfl⟩, ?_⟩
        unfold sameT at hs
        rw [decide_eq_true_eq, List.getElem_take, hat j (by omega) (by omega), hat n (by omega) hx] at hs
        exact hs
      · rintro ⟨x, hx2, hs⟩
        obtain ⟨j, hj, rfl⟩ := List.mem_take_iff_getElem.1 hx2
        refine ⟨ps[j]'(by omega), List.mem_take_iff_getElem.2 ⟨j, by omega, rfl⟩, ?_⟩
        unfold sameT
        rw [decide_eq_true_eq, hat j (by omega) (by omega), hat n (by omega) hx]
        exact hs
    by_cases hc : (ps.take n).any (sameT L ps[n]) = true
    · rw [if_pos hc, if_pos (e2.1 hc)]
      rfl
    · rw [if_neg hc, if_neg (fun q => hc (e2.2 q))]
      rfl

/-- the kind that is noted of a name -/
def KOk (K : Wd → Option Nat) (P : List Mk) : Prop := ∀ n, K n = (P.find? fun x => decide (sortD x ≠ 0) && decide (x.name = n)).map fun x => if sortD x = 110 then 1 else 2
theorem KOk.more {K : Wd → Option Nat} {P : List Mk} (h : KOk K P) {m : Mk} (hm : sortD m = 0) : KOk K (P ++ [m]) := fun n => by
  rw [h n, List.find?_append]
  cases P.find? fun x => decide (sortD x ≠ 0) && decide (x.name = n) with
  | some x => rfl
  | none => simp [hm]
/-- an argument that is spoken of as something -/
theorem kind_step {rs : List Int} {L P : List Mk} {m : Mk} {K : Wd → Option Nat} {acc : List (Nat × Nat)} {st : Nat × Nat} {k a : Nat} (hK : KOk K P) (hL : L.take P.length = P) (hk : k = (if sortD m = 110 then 1 else 2)) (hs : sortD m = 110 ∨ sortD m = 116) (hpl : m.pl = offI rs a) :
    ∃ K2 l, kindS (K, acc) m.name a k = (K2, acc ++ l) ∧ KOk K2 (P ++ [m]) ∧ (∀ x ∈ l, x = (5, a)) ∧ kindD L P.length m st = l.foldl (updB rs) st := by
  have hs0 : sortD m ≠ 0 := by rcases hs with h | h <;> rw [h] <;> decide
  have hk0 : k ≠ 0 := by rw [hk]; split <;> decide
  have hKn := hK m.name
  have hfun : (likeD m) = fun x => decide (sortD x ≠ 0) && decide (x.name = m.name) := rfl
  unfold kindD
  rw [if_neg hs0, hL, hfun]
  have hother : ∀ n, n ≠ m.name → K n = ((P ++ [m]).find? fun x => decide (sortD x ≠ 0) && decide (x.name = n)).map fun x => if sortD x = 110 then 1 else 2 := fun n hn => by
    rw [hK n, List.find?_append]
    cases P.find? fun x => decide (sortD x ≠ 0) && decide (x.name = n) with
    | some x => rfl
    | none => simp [Ne.symm hn]
  cases hf : P.find? fun x => decide (sortD x ≠ 0) && decide (x.name = m.name) with
  | none =>
    rw [hf] at hKn
    have hKn : K m.name = none := hKn
    refine ⟨fun y => if m.name = y then some k else K y, [], ?_, fun n => ?_, fun x hx => by simp at hx, rfl⟩
    · unfold kindS
      rw [if_neg (by show ¬ (k ≠ 0 ∧ (K m.name).isSome = true ∧ (K m.name).getD 0 ≠ k); rw [hKn]; rintro ⟨-, h, -⟩; cases h), if_pos hk0, List.append_nil]
    · dsimp only
      by_cases hn : m.name = n
      · subst hn
        rw [if_pos rfl, List.find?_append, hf]
        have : (decide (sortD m ≠ 0) && decide (m.name = m.name)) = true := by simp [hs0]
        rw [Option.none_or, List.find?_cons, this, hk]
        rfl
      · rw [if_neg hn]
        exact hother n (fun q => hn q.symm)
  | some x =>
    rw [hf] at hKn
    have hKn : K m.name = some (if sortD x = 110 then 1 else 2) := hKn
    have hx := List.find?_some hf
    simp only [Bool.and_eq_true, decide_eq_true_eq] at hx
    have hxs : sortD x = 110 ∨ sortD x = 116 := by
      have h0 := hx.1
      unfold sortD at h0 ⊢
      split
      · exact .inl rfl
      next h1 =>
      rw [if_neg h1] at h0
      split
      · exact .inr rfl
      next h2 => rw [if_neg h2] at h0; exact absurd rfl h0
    have hsame : sortD x ≠ sortD m ↔ (if sortD x = 110 then 1 else 2) ≠ k := by
      rw [hk]
      rcases hxs with h1 | h1 <;> rcases hs with h2 | h2 <;> rw [h1, h2] <;> decide
    dsimp only
    have hKall : KOk K (P ++ [m]) := fun n => by
      by_cases hn : n = m.name
      · subst hn
        rw [hKn, List.find?_append, hf]
        rfl
      · exact hother n hn
    by_cases hd : sortD x ≠ sortD m
    · rw [if_pos hd]
      refine ⟨K, [(5, a)], ?_, hKall, fun y hy => by simpa using hy, ?_⟩
      · unfold kindS
        rw [if_pos (show k ≠ 0 ∧ (K m.name).isSome = true ∧ (K m.name).getD 0 ≠ k from ⟨hk0, by rw [hKn]; rfl, by rw [hKn]; exact hsame.1 hd⟩)]
      · rw [hpl]
        rfl
    · rw [if_neg hd]
      refine ⟨fun y => if m.name = y then some k else K y, [], ?_, fun n => ?_, fun y hy => by simp at hy, rfl⟩
      · unfold kindS
        rw [if_neg (show ¬ (k ≠ 0 ∧ (K m.name).isSome = true ∧ (K m.name).getD 0 ≠ k) from fun q => hd (hsame.2 (by rw [hKn] at q; exact q.2.2))), if_pos hk0, List.append_nil]
      · dsimp only
        by_cases hn : m.name = n
        · rw [if_pos hn, ← hn, ← hKall m.name, hKn]
          have : ¬ (if sortD x = 110 then 1 else 2) ≠ k := fun q => hd (hsame.2 q)
          rw [Classical.not_not.1 this]
        · rw [if_neg hn]
          exact hKall n

theorem faultsGo_plain {L P Q : List Mk} {m : Mk} (hL : L = P ++ m :: Q) (hs : sortD m = 0) (hk : m.kind ≠ 40) : faultsGo L (P.length + 1) = faultsGo L P.length := by
  have hm : mkA L P.length = m := by
    rw [hL]
    unfold mkA
    rw [List.getD_eq_getElem?_getD, List.getElem?_append_right (Nat.le_refl _), Nat.sub_self]
    rfl
  rw [faultsGo]
  unfold stepD
  dsimp only
  rw [hm, if_pos hk]
  unfold kindD
  rw [if_pos hs]

/-- all faults of a message: the program's are the document's -/
theorem faults_fold (rs : List Int) (N : Nat) : ∀ (f : Fo) (L P Q : List Mk) (K : Wd → Option Nat) (acc : List (Nat × Nat)), L = P ++ (marksF rs f ++ Q) → KOk K P → f.fit N →
    ∃ K2 l, eachF chkF f (K, acc) = .go true (K2, acc ++ l) ∧ KOk K2 (P ++ marksF rs f) ∧ (∀ x ∈ l, x.1 ≠ 0 ∧ x.2 < N) ∧ faultsGo L (P.length + (marksF rs f).length) = l.foldl (updB rs) (faultsGo L P.length)
  | .nil, L, P, Q, K, acc, hL, hK, hf => ⟨K, [], by simp [eachF], by simpa [marksF] using hK, fun x hx => by simp at hx, rfl⟩
  | .text t r, L, P, Q, K, acc, hL, hK, hf => by
    obtain ⟨K2, l, h1, h2, h3, h4⟩ := faults_fold rs N r L (P ++ [⟨116, t, [], [], [], 0⟩]) Q K acc (by simp [hL, marksF]) (hK.more rfl) hf
    refine ⟨K2, l, h1, by simpa [marksF] using h2, h3, ?_⟩
    have e := faultsGo_plain (L := L) (P := P) (Q := marksF rs r ++ Q) (m := ⟨116, t, [], [], [], 0⟩) (by simp [hL, marksF]) rfl (by show 116 ≠ 40; decide)
    rw [List.length_append, List.length_singleton, e] at h4
    rw [← h4, marksF, List.length_cons, Nat.add_right_comm, Nat.add_assoc]
  | .hash r, L, P, Q, K, acc, hL, hK, hf => by
    obtain ⟨K2, l, h1, h2, h3, h4⟩ := faults_fold rs N r L (P ++ [⟨35, [], [], [], [], 0⟩]) Q K acc (by simp [hL, marksF]) (hK.more rfl) hf
    refine ⟨K2, l, h1, by simpa [marksF] using h2, h3, ?_⟩
    have e := faultsGo_plain (L := L) (P := P) (Q := marksF rs r ++ Q) (m := ⟨35, [], [], [], [], 0⟩) (by simp [hL, marksF]) rfl (by show 35 ≠ 40; decide)
    rw [List.length_append, List.length_singleton, e] at h4
    rw [← h4, marksF, List.length_cons, Nat.add_right_comm, Nat.add_assoc]
  | .put n a r, L, P, Q, K, acc, hL, hK, hf => by
    obtain ⟨K2, l, h1, h2, h3, h4⟩ := faults_fold rs N r L (P ++ [⟨112, [], n, [], [], offI rs a⟩]) Q K acc (by simp [hL, marksF]) (hK.more rfl) hf.2.2
    refine ⟨K2, l, ?_, by simpa [marksF] using h2, h3, ?_⟩
    · rw [eachF]
      exact h1
    have e := faultsGo_plain (L := L) (P := P) (Q := marksF rs r ++ Q) (m := ⟨112, [], n, [], [], offI rs a⟩) (by simp [hL, marksF]) rfl (by show 112 ≠ 40; decide)
    rw [List.length_append, List.length_singleton, e] at h4
    rw [← h4, marksF, List.length_cons, Nat.add_right_comm, Nat.add_assoc]
  | .num n a r, L, P, Q, K, acc, hL, hK, hf => by
    have hLt : L.take P.length = P := by rw [hL, List.take_left]
    have hm : mkA L P.length = ⟨110, [], n, numW, [], offI rs a⟩ := by
      rw [hL]
      unfold mkA
      rw [List.getD_eq_getElem?_getD, List.getElem?_append_right (Nat.le_refl _), Nat.sub_self]
      rfl
    obtain ⟨K1, l1, g1, g2, g3, g4⟩ := kind_step (rs := rs) (m := ⟨110, [], n, numW, [], offI rs a⟩) (acc := acc) (st := faultsGo L P.length) (k := 1) (a := a) hK hLt rfl (.inl rfl) rfl
    obtain ⟨K2, l, h1, h2, h3, h4⟩ := faults_fold rs N r L (P ++ [⟨110, [], n, numW, [], offI rs a⟩]) Q K1 (acc ++ l1) (by simp [hL, marksF]) g2 hf.2.2
    refine ⟨K2, l1 ++ l, ?_, by simpa [marksF] using h2, ?_, ?_⟩
    · rw [eachF]
      show Out.then (Out.go true (kindS (K, acc) n a 1)) _ = _
      have g1 : kindS (K, acc) n a 1 = (K1, acc ++ l1) := g1
      rw [g1, ← List.append_assoc]
      exact h1
    · intro x hx
      rcases List.mem_append.1 hx with hx | hx
      · rw [g3 x hx]
        exact ⟨by show 5 ≠ 0; decide, hf.2.1⟩
      · exact h3 x hx
    · rw [List.length_append, List.length_singleton] at h4
      rw [marksF, List.length_cons, List.foldl_append, ← g4, show P.length + ((marksF rs r).length + 1) = P.length + 1 + (marksF rs r).length by omega, h4, faultsGo]
      unfold stepD
      dsimp only
      rw [hm, if_pos (by show 110 ≠ 40; decide)]
  | .br n a fo o c bs r, L, P, Q, K, acc, hL, hK, hf => by
    obtain ⟨f1, f2, f3, f4, f5, f6⟩ := hf
    obtain ⟨m, hmE⟩ : ∃ m : Mk, m = ⟨40, [], n, formW fo, o, offI rs a⟩ := ⟨_, rfl⟩
    obtain ⟨z, hzE⟩ : ∃ z : Mk, z = ⟨41, [], [], [], [], offI rs c⟩ := ⟨_, rfl⟩
    have hL2 : L = P ++ m :: (marksF rs bs ++ z :: (marksF rs r ++ Q)) := by rw [hL, hmE, hzE]; simp [marksF]
    have hLt : L.take P.length = P := by rw [hL, List.take_left]
    have hm : mkA L P.length = m := by
      rw [hL2]
      unfold mkA
      rw [List.getD_eq_getElem?_getD, List.getElem?_append_right (Nat.le_refl _), Nat.sub_self]
      rfl
    have hsel : (formW fo ≠ selD) ↔ fo ≠ 0 := by
      match fo with
      | 0 => exact ⟨fun q => absurd rfl q, fun q => absurd rfl q⟩
      | 1 => exact ⟨fun _ => by decide, fun _ => by decide⟩
      | k + 2 => exact ⟨fun _ => by omega, fun _ => by show ordW ≠ selD; decide⟩
    have hso : sortD m = if fo = 0 then 116 else 110 := by
      rw [hmE]
      unfold sortD
      dsimp only
      by_cases h0 : fo = 0
      · rw [if_neg (by rintro (q | q); · cases q
                       · exact (hsel.1 q.2) h0), if_pos rfl, if_pos h0]
      · rw [if_pos (.inr ⟨rfl, hsel.2 h0⟩), if_neg h0]
    have hkf : (if fo = 0 then 2 else 1) = (if sortD m = 110 then 1 else 2) := by
      rw [hso]
      by_cases h0 : fo = 0
      · rw [if_pos h0, if_pos h0]; rfl
      · rw [if_neg h0, if_neg h0]; rfl
    obtain ⟨K1, l1, g1, g2, g3, g4⟩ := kind_step (rs := rs) (m := m) (acc := acc) (st := faultsGo L P.length) (k := if fo = 0 then 2 else 1) (a := a) hK hLt hkf (by rw [hso]; by_cases h0 : fo = 0 <;> simp [h0]) (by rw [hmE])
    have hend : endL L P.length = P.length + 1 + (marksF rs bs).length := by
      rw [hL2]
      exact endL_at rs P _ m z bs (by rw [hmE]; rfl) (by rw [hzE]; rfl) (by rw [hzE]; rfl)
    have hpos := brGo_pos rs (z :: (marksF rs r ++ Q)) bs (P ++ [m]) (L.length + 1) f4 (by have := legsI_le rs bs; rw [hL2]; simp; omega)
    have hLm : P ++ [m] ++ (marksF rs bs ++ z :: (marksF rs r ++ Q)) = L := by rw [hL2]; simp
    rw [hLm, List.length_append, List.length_singleton] at hpos
    have hbr : branchesD L P.length = brPos rs bs (P.length + 1) := by
      unfold branchesD
      rw [hend]
      exact hpos.1
    have hlen : (brPos rs bs (P.length + 1)).length = (legsI bs).length := by simpa using congrArg List.length hpos.2
    have htw : ∀ st, twGo L (branchesD L P.length) (branchesD L P.length).length st = (twF [] (legsI bs)).foldl (updB rs) st := fun st => by
      rw [hbr, twGo_tw rs L _ _ hpos.2 _ st (Nat.le_refl _), hlen, List.take_length]
    have hot : (branchesD L P.length).any (isOth L) = true ↔ othW ∈ (legsI bs).map (·.1) := by
      rw [hbr]
      have e : (brPos rs bs (P.length + 1)).any (isOth L) = ((brPos rs bs (P.length + 1)).map (mkA L)).any (fun x => decide (x.text = othD)) := by rw [List.any_map]; rfl
      rw [e, hpos.2, List.any_map, List.any_eq_true, List.mem_map]
      constructor
      · rintro ⟨x, hx, h⟩
        exact ⟨x, hx, of_decide_eq_true (p := x.1 = othW) h⟩
      · rintro ⟨x, hx, h⟩
        exact ⟨x, hx, decide_eq_true (p := x.1 = othW) h⟩
    obtain ⟨lb, hlb⟩ : ∃ lb, twF [] (legsI bs) ++ (if othW ∈ ([] : List Wd) ∨ othW ∈ (legsI bs).map (·.1) then [] else [(6, c)]) = lb := ⟨_, rfl⟩
    have hzpl : (mkA L (endL L P.length)).pl = offI rs c := by
      rw [hend, ← hLm]
      unfold mkA
      rw [List.getD_eq_getElem?_getD, List.getElem?_append_right (by simp <;> omega), List.getElem?_append_right (by simp <;> omega)]
      simp only [List.length_append, List.length_singleton]
      rw [show P.length + 1 + (marksF rs bs).length - (P.length + 1) - (marksF rs bs).length = 0 by omega, hzE]
      rfl
    have hstep : faultsGo L (P.length + 1) = (l1 ++ lb).foldl (updB rs) (faultsGo L P.length) := by
      rw [faultsGo]
      unfold stepD
      dsimp only
      rw [hm, if_neg (by rw [hmE]; show ¬ 40 ≠ 40; decide), g4, htw, hzpl, List.foldl_append, ← hlb, List.foldl_append]
      by_cases ho : (branchesD L P.length).any (isOth L) = true
      · rw [if_pos ho, if_pos (.inr (hot.1 ho))]
        rfl
      · rw [if_neg ho, if_neg (by rintro (q | q); · cases q
                                  · exact ho (hot.2 q))]
        rfl
    obtain ⟨K2, l2, h1, h2, h3, h4⟩ := faults_fold rs N bs L (P ++ [m]) (z :: (marksF rs r ++ Q)) K1 (acc ++ l1 ++ lb) hLm.symm g2 f5
    have hK3 : KOk K2 (P ++ [m] ++ marksF rs bs ++ [z]) := h2.more (by rw [hzE]; rfl)
    obtain ⟨K3, l3, k1, k2, k3, k4⟩ := faults_fold rs N r L (P ++ [m] ++ marksF rs bs ++ [z]) Q K2 (acc ++ l1 ++ lb ++ l2) (by rw [← hLm]; simp) hK3 f6
    have hplain := faultsGo_plain (L := L) (P := P ++ [m] ++ marksF rs bs) (Q := marksF rs r ++ Q) (m := z) (by rw [← hLm]; simp) (by rw [hzE]; rfl) (by rw [hzE]; show 41 ≠ 40; decide)
    refine ⟨K3, l1 ++ lb ++ l2 ++ l3, ?_, ?_, ?_, ?_⟩
    · rw [eachF]
      have hc : chkF (K, acc) (.br n a fo o c bs .nil) = .go true (K1, acc ++ l1 ++ lb) := by
        have g1' : kindS (K, acc) n a (if fo = 0 then 2 else 1) = (K1, acc ++ l1) := by rw [hmE] at g1; exact g1
        show Out.go true ((kindS (K, acc) n a (if fo = 0 then 2 else 1)).1, (kindS (K, acc) n a (if fo = 0 then 2 else 1)).2 ++ bGo c [] [] bs) = _
        rw [g1', bGo_tw c bs [] [] f4, ← hlb]
        simp
      rw [hc]
      show Out.then (eachF chkF bs (K1, acc ++ l1 ++ lb)) _ = _
      rw [h1]
      show eachF chkF r (K2, acc ++ l1 ++ lb ++ l2) = _
      rw [k1]
      simp
    · have e : P ++ [m] ++ marksF rs bs ++ [z] ++ marksF rs r = P ++ marksF rs (.br n a fo o c bs r) := by rw [hmE, hzE]; simp [marksF]
      rw [← e]
      exact k2
    · have htwf : ∀ (xs : List (Wd × Nat)) (seen : List Wd), (∀ x ∈ xs, x.2 < N) → ∀ x ∈ twF seen xs, x.1 ≠ 0 ∧ x.2 < N := by
        intro xs
        induction xs with
        | nil => intro seen _ x hx; cases hx
        | cons y t ih =>
          intro seen hy x hx
          rw [twF] at hx
          rcases List.mem_append.1 hx with hx | hx
          · split at hx
            · rw [List.mem_singleton] at hx
              subst hx
              exact ⟨by show 7 ≠ 0; decide, hy y List.mem_cons_self⟩
            · cases hx
          · exact ih _ (fun u hu => hy u (List.mem_cons_of_mem _ hu)) x hx
      have hleg : ∀ g : Fo, g.fit N → ∀ x ∈ legsI g, x.2 < N := by
        intro g
        induction g with
        | leg k a m r ihm ihr =>
          intro hg x hx
          rw [legsI] at hx
          rcases List.mem_cons.1 hx with rfl | hx
          · exact hg.1
          · exact ihr hg.2.2 x hx
        | nil => intro _ x hx; cases hx
        | text _ _ _ => intro _ x hx; cases hx
        | hash _ _ => intro _ x hx; cases hx
        | put _ _ _ _ => intro _ x hx; cases hx
        | num _ _ _ _ => intro _ x hx; cases hx
        | br _ _ _ _ _ _ _ _ _ => intro _ x hx; cases hx
      intro x hx
      simp only [List.mem_append] at hx
      rcases hx with ((hx | hx) | hx) | hx
      · rw [g3 x hx]
        exact ⟨by show 5 ≠ 0; decide, f2⟩
      · rw [← hlb] at hx
        rcases List.mem_append.1 hx with hx | hx
        · exact htwf _ _ (hleg bs f5) x hx
        · split at hx
          · cases hx
          · rw [List.mem_singleton] at hx
            subst hx
            exact ⟨by show 6 ≠ 0; decide, f3⟩
      · exact h3 x hx
      · exact k3 x hx
    · have hl : P.length + (marksF rs (.br n a fo o c bs r)).length = (P ++ [m] ++ marksF rs bs ++ [z]).length + (marksF rs r).length := by simp [marksF]; omega
      rw [hl, k4, List.foldl_append, List.foldl_append, ← hstep]
      congr 1
      rw [List.length_append, List.length_singleton, hplain, List.length_append, h4, List.length_append, List.length_singleton]
  | .leg k a mm r, L, P, Q, K, acc, hL, hK, hf => by
    obtain ⟨f1, f2, f3⟩ := hf
    have e1 := faultsGo_plain (L := L) (P := P) (Q := marksF rs mm ++ ⟨93, [], [], [], [], 0⟩ :: (marksF rs r ++ Q)) (m := ⟨91, k, [], [], [], offI rs a⟩) (by simp [hL, marksF]) rfl (by show 91 ≠ 40; decide)
    obtain ⟨K2, l, h1, h2, h3, h4⟩ := faults_fold rs N mm L (P ++ [⟨91, k, [], [], [], offI rs a⟩]) (⟨93, [], [], [], [], 0⟩ :: (marksF rs r ++ Q)) K acc (by simp [hL, marksF]) (hK.more rfl) f2
    have hK3 : KOk K2 (P ++ [⟨91, k, [], [], [], offI rs a⟩] ++ marksF rs mm ++ [⟨93, [], [], [], [], 0⟩]) := h2.more rfl
    obtain ⟨K3, l3, k1, k2, k3, k4⟩ := faults_fold rs N r L (P ++ [⟨91, k, [], [], [], offI rs a⟩] ++ marksF rs mm ++ [⟨93, [], [], [], [], 0⟩]) Q K2 (acc ++ l) (by simp [hL, marksF]) hK3 f3
    have e2 := faultsGo_plain (L := L) (P := P ++ [⟨91, k, [], [], [], offI rs a⟩] ++ marksF rs mm) (Q := marksF rs r ++ Q) (m := ⟨93, [], [], [], [], 0⟩) (by simp [hL, marksF]) rfl (by show 93 ≠ 40; decide)
    refine ⟨K3, l ++ l3, ?_, ?_, ?_, ?_⟩
    · rw [eachF, h1]
      show eachF chkF r (K2, acc ++ l) = _
      rw [k1]
      simp
    · have e : P ++ [⟨91, k, [], [], [], offI rs a⟩] ++ marksF rs mm ++ [⟨93, [], [], [], [], 0⟩] ++ marksF rs r = P ++ marksF rs (.leg k a mm r) := by simp [marksF]
      rw [← e]
      exact k2
    · intro x hx
      rcases List.mem_append.1 hx with hx | hx
      · exact h3 x hx
      · exact k3 x hx
    · have hl : P.length + (marksF rs (.leg k a mm r)).length = (P ++ [(⟨91, k, [], [], [], offI rs a⟩ : Mk)] ++ marksF rs mm ++ [(⟨93, [], [], [], [], 0⟩ : Mk)]).length + (marksF rs r).length := by simp [marksF]; omega
      rw [hl, k4, List.foldl_append]
      congr 1
      rw [List.length_append, List.length_singleton, e2, List.length_append, h4, List.length_append, List.length_singleton, e1]

/-- the first fault: the program's is the document's -/
theorem faults_first {s : ByteArray} {rs : List Int} (E : BpE s rs) : ∀ (l : List (Nat × Nat)) (x : Nat × Nat), (∀ y ∈ x :: l, y.1 ≠ 0 ∧ y.2 < rs.length) →
    l.foldl (updB rs) (x.1, offI rs x.2) = ((minF x l).1, offI rs (minF x l).2) ∧ minF x l ∈ x :: l
  | [], x, h => ⟨rfl, List.mem_cons_self⟩
  | y :: l, x, h => by
    have hx := h x List.mem_cons_self
    have hy := h y (by simp)
    rw [List.foldl_cons]
    have hu : updB rs (x.1, offI rs x.2) y = if y.2 < x.2 then (y.1, offI rs y.2) else (x.1, offI rs x.2) := by
      unfold updB updF
      dsimp only
      have := E.iff (i := y.2) (j := x.2) (by omega) (by omega)
      by_cases hc : y.2 < x.2
      · rw [if_pos (.inr (this.2 hc)), if_pos hc]
      · rw [if_neg (by rintro (q | q); · exact hx.1 q
                       · exact hc (this.1 q)), if_neg hc]
    have hm : minF x (y :: l) = minF (if y.2 < x.2 then y else x) l := rfl
    rw [hu, hm]
    by_cases hc : y.2 < x.2
    · rw [if_pos hc, if_pos hc]
      have ih := faults_first E l y (fun z hz => h z (List.mem_cons_of_mem _ hz))
      exact ⟨ih.1, List.mem_cons_of_mem _ ih.2⟩
    · rw [if_neg hc, if_neg hc]
      have ih := faults_first E l x (fun z hz => by
        rcases List.mem_cons.1 hz with rfl | hz
        · exact hx
        · exact h z (by simp [hz]))
      refine ⟨ih.1, ?_⟩
      rcases List.mem_cons.1 ih.2 with q | q
      · rw [q]; exact List.mem_cons_self
      · simp [q]
theorem faults_law {s : ByteArray} {rs : List Int} (E : BpE s rs) {f : Fo} (hf : f.fit rs.length) :
    (chkL f = none ∧ faultsD (marksF rs f) = (0, 0)) ∨ ∃ e a, chkL f = some (e, a) ∧ e ≠ 0 ∧ a < rs.length ∧ faultsD (marksF rs f) = (e, offI rs a) := by
  obtain ⟨K2, l, h1, h2, h3, h4⟩ := faults_fold rs rs.length f (marksF rs f) [] [] (fun _ => none) [] (by simp) (fun n => by rfl) hf
  have hfl : faultsL f = l := by
    unfold faultsL
    rw [h1]
    rfl
  have hD : faultsD (marksF rs f) = l.foldl (updB rs) (0, 0) := by
    unfold faultsD
    have : faultsGo (marksF rs f) ([] : List Mk).length = (0, 0) := rfl
    rw [this, List.length_nil, Nat.zero_add] at h4
    exact h4
  unfold chkL
  rw [hfl, hD]
  cases l with
  | nil => exact .inl ⟨rfl, rfl⟩
  | cons x t =>
    obtain ⟨g1, g2⟩ := faults_first E t x h3
    refine .inr ⟨(minF x t).1, (minF x t).2, rfl, (h3 _ g2).1, (h3 _ g2).2, ?_⟩
    rw [List.foldl_cons]
    exact g1
end Go.Proofs.YtdelpialeajajaaGreatDoor

/- phrases.Each: what its closures do. -/
namespace Go.Proofs.YtdelpialeajajaaGreatDoor
open Go Go.RowKit
set_option maxRecDepth 10000

/-- all is as it was but for blocks from m to hi, and what is new -/
structure Alt (m hi : Nat) (w w' : World) : Prop where
  os : w'.os = w.os
  tape : w'.tape = w.tape
  output : w'.output = w.output
  size : w.heap.size ≤ w'.heap.size
  block : ∀ k, k < w.heap.size → (k < m ∨ hi ≤ k) → w'.heap[k]? = w.heap[k]?

theorem Alt.of {m hi : Nat} {w w' : World} (h : Below w.heap.size w w') : Alt m hi w w' := ⟨h.os, h.tape, h.output, h.size, fun k hk _ => h.block k hk⟩
theorem Alt.set {m hi b j : Nat} (w : World) (u : Value) (h1 : m ≤ b) (h2 : b < hi) : Alt m hi w (w.setCell ⟨b, j, none⟩ u) :=
  ⟨rfl, rfl, rfl, by simp [World.setCell], fun k _ hk => Below.heap_setCell _ _ _ _ (by show k ≠ b; omega)⟩

/-- a function handed in by a caller: asked by name and place; it writes nothing that lies in blocks from m to hi -/
structure AskR {σ : Type} (m hi : Nat) (v : Value) (I : σ → Nat → World → Prop) (F : σ → Wd → Nat → Out σ) : Prop where
  fn : ∃ k cap, v = .func (.func k) #[] cap ∧ (∀ args w, (callFunc k args).run Tryz.prog w = .ok (.enter k args) w) ∧
    ∀ s room W n a, I s (room + 1) W → hi ≤ W.heap.size → n.length ≤ 4000001 → Calls Tryz.prog k (#[strv n, .int .i64 (a : Nat)] ++ cap) W (fun e W' => OutQ I room (F s n a) e W' ∧ KeepR m hi W W')
  same : ∀ s b W W', I s b W → Alt m hi W W' → I s b W'
  less : ∀ s b b' W, I s b W → b' ≤ b → I s b' W
  pan : ∀ s n a c s', F s n a = .pan c s' → ∃ t x, c = [{ v := .iface t x, recovered := false }]

/-- .. at a node -/
def askF {σ : Type} (F : σ → Wd → Nat → Out σ) (s : σ) (x : Fo) : Out σ := match headF x with | some (n, a) => F s n a | none => .go true s

theorem each2_any {σ : Type} {m hi : Nat} {v : Value} {I : σ → Nat → World → Prop} {F : σ → Wd → Nat → Out σ} (hA : AskR m hi v I F) (Y : Nat) (s : σ) (room : Nat) (W : World) (u : Value) (n : Wd) (a : Nat)
    (hI : I s (room + 1) W) (hY : W.cell? ⟨Y, 0, none⟩ = some v) (hn : n.length ≤ 4000001) (hhi : hi ≤ W.heap.size) :
    Calls Tryz.prog 38 #[u, .agg #[strv n, .int .i64 (a : Nat)], .pointer (some ⟨Y, 0, none⟩)] W (fun e W' => OutQ I room (F s n a) e W' ∧ KeepR m hi W W') := by
  obtain ⟨⟨k, cap, rfl, hent, hcall⟩, hsame, hless, _⟩ := hA
  have hlt : Y < W.heap.size := World.block_lt_of_cell? W _ hY
  have hal := fun o => (Below.refl W.heap.size W).alloc (Nat.le_refl _) o
  have HC := Lib.hid (hcall s room (W.alloc (.cells #[strv n, .int .i64 (a : Nat)] 84)) n a (hsame _ _ _ _ hI (Alt.of (hal _))) (Nat.le_trans hhi (hal _).size) hn)
  have HK := Lib.hid ((keep_refl (lo := m) hhi).below (hal (.cells #[strv n, .int .i64 (a : Nat)] 84)))
  have hY' : (W.alloc (.cells #[strv n, .int .i64 (a : Nat)] 84)).cell? ⟨Y, 0, none⟩ = some (.func (.func k) #[] cap) := (World.cell?_alloc_lt _ _ _ hlt).trans hY
  clear hI hcall hsame hless hal hY hn
  obtain ⟨o, ho⟩ : ∃ o, F s n a = o := ⟨_, rfl⟩
  rw [ho] at HC ⊢
  clear ho
  go_enter Tryz.func38, Tryz.ntmps38
  go_wp2_with fail
  refine HC.out.mono ?_
  rintro e w2 ⟨hq, hk2⟩
  have HK2 := Lib.hid (hk2.via HK.out (Nat.le_refl _) (Nat.le_refl _))
  clear hk2 HK
  cases o with
  | pan c s2 =>
    obtain ⟨rfl, hi2⟩ := hq
    go_wp2
    exact ⟨rfl, ⟨rfl, hi2⟩, HK2.out⟩
  | go b s2 =>
    obtain ⟨rfl, hi2⟩ := hq
    have HI2 := Lib.hid hi2
    clear hi2
    go_wp2
    go_ret
    exact ⟨⟨rfl, HI2.out⟩, HK2.out⟩

theorem each_pan {σ : Type} {G : σ → Fo → Out σ} (hG : ∀ s x c s', G s x = .pan c s' → ∃ t y, c = [{ v := .iface t y, recovered := false }]) : ∀ (f : Fo) (s : σ) (c : List PanicEntry) (s' : σ), eachF G f s = .pan c s' → ∃ t y, c = [{ v := .iface t y, recovered := false }]
  | .nil, s, c, s', h => by cases h
  | .text _ r, s, c, s', h => each_pan hG r s c s' h
  | .hash r, s, c, s', h => each_pan hG r s c s' h
  | .put n a r, s, c, s', h => by
    rw [eachF] at h
    cases ho : G s (.put n a .nil) with
    | pan c2 s2 => rw [ho] at h; cases h; exact hG _ _ _ _ ho
    | go b s2 =>
      rw [ho] at h
      cases b with
      | false => cases h
      | true => exact each_pan hG r s2 c s' h
  | .num n a r, s, c, s', h => by
    rw [eachF] at h
    cases ho : G s (.num n a .nil) with
    | pan c2 s2 => rw [ho] at h; cases h; exact hG _ _ _ _ ho
    | go b s2 =>
      rw [ho] at h
      cases b with
      | false => cases h
      | true => exact each_pan hG r s2 c s' h
  | .br n a f o c0 bs r, s, c, s', h => by
    rw [eachF] at h
    cases ho : G s (.br n a f o c0 bs .nil) with
    | pan c2 s2 => rw [ho] at h; cases h; exact hG _ _ _ _ ho
    | go b s2 =>
      rw [ho] at h
      cases b with
      | false => cases h
      | true =>
        have h' : (eachF G bs s2).then (fun s => eachF G r s) = .pan c s' := h
        cases h2 : eachF G bs s2 with
        | pan c3 s3 => rw [h2] at h'; cases h'; exact each_pan hG bs _ _ _ h2
        | go b2 s3 =>
          rw [h2] at h'
          cases b2 with
          | false => cases h'
          | true => exact each_pan hG r s3 c s' h'
  | .leg k a m r, s, c, s', h => by
    rw [eachF] at h
    cases h2 : eachF G m s with
    | pan c3 s3 => rw [h2] at h; cases h; exact each_pan hG m _ _ _ h2
    | go b2 s3 =>
      rw [h2] at h
      cases b2 with
      | false => cases h
      | true => exact each_pan hG r s3 c s' h

/-- what Each defers: a panic becomes an error -/
theorem each1_idle (B : Nat) (w : World) : CallsD Tryz.prog 36 #[.pointer (some ⟨B, 0, none⟩)] .returning w fun e u' w' => e = .returned (.tuple #[]) ∧ u' = .returning ∧ w' = w := by
  refine callsD_of_wpS Tryz.func36 rfl fun c₀ cs hu => ?_
  apply wpS_seq
  apply wpS_region
  simp [wpOpsS, go_sem, recoverD, hu, Tryz.ntmps36, Exit.thenS]
  refine wpS_of_wp ?_
  go_wp2
  cases c₀
  simp_all [bodyPostS, results, Tryz.results36]

theorem each1_catch (B : Nat) (t : TypeId) (x u : Value) (older : List PanicEntry) (w : World) (hc : w.cell? ⟨B, 0, none⟩ = some u) (hz : w.frozen? ⟨B, 0, none⟩ = false) :
    CallsD Tryz.prog 36 #[.pointer (some ⟨B, 0, none⟩)] (.panicking ({ v := .iface t x, recovered := false } :: older)) w fun e u' w' =>
      e = .returned (.tuple #[]) ∧ u' = .panicking ({ v := .iface t x, recovered := true } :: older) ∧ w' = w.setCell ⟨B, 0, none⟩ (.iface 38 (.int .i64 15)) := by
  refine callsD_of_wpS Tryz.func36 rfl fun c₀ cs hu => ?_
  apply wpS_seq
  apply wpS_region
  simp [wpOpsS, go_sem, recoverD, hu, Tryz.ntmps36, Exit.thenS]
  refine wpS_of_wp ?_
  simp only [Array.replicate, List.replicate, List.setIfInBounds_toArray, List.set_cons_zero, List.set_cons_succ, List.append_toArray, List.cons_append, List.nil_append, Act.put]
  go_wp2
  simp [bodyPostS, results, Tryz.results36]
end Go.Proofs.YtdelpialeajajaaGreatDoor

/- phrases.Each. -/
namespace Go.Proofs.YtdelpialeajajaaGreatDoor
open Go Go.RowKit
set_option maxRecDepth 10000

def EachQ {σ : Type} (r : Except (Nat × Nat) Fo) (I : Nat → σ → Nat → World → Prop) (F : σ → Wd → Nat → Out σ) (s0 : σ) (w : World) (e : Ending) (w' : World) : Prop :=
  match r with
  | .error (n, a) => (∃ b, e = .returned (.iface 86 (.pointer (some ⟨b, 0, none⟩))) ∧ w'.cell? ⟨b, 0, none⟩ = some (.int .i64 n) ∧ w'.cell? ⟨b, 1, none⟩ = some (.int .i64 a)) ∧ Below w.heap.size w w'
  | .ok f => ∃ hi, w.heap.size ≤ hi ∧ match eachF (askF F) f s0 with
    | .go _ s' => e = .returned .nilIface ∧ I hi s' 0 w'
    | .pan _ s' => e = .returned (.iface 38 (.int .i64 15)) ∧ I hi s' 0 w'

set_option maxHeartbeats 4000000 in
theorem peach_any {σ : Type} (s : ByteArray) (v : Value) (I : Nat → σ → Nat → World → Prop) (F : σ → Wd → Nat → Out σ) (s0 : σ) (w : World) (hs : s.size ≤ 9223372036854775807) (hT : Lib.Utf8Tabs 2 3 w) (hN : NamesAt w)
    (hv : ∃ k cap, v = .func (.func k) #[] cap) (hA : ∀ hi, w.heap.size ≤ hi → AskR w.heap.size hi v (I hi) F) (hI : ∀ hi W, w.heap.size ≤ hi → hi ≤ W.heap.size → Below w.heap.size w W → I hi s0 1000 W) :
    Calls Tryz.prog 23 #[.string s, v] w (EachQ (readP s.data.toList) I F s0 w) := by
  obtain ⟨kv, cv, rfl⟩ := hv
  have hmf : ∀ (fn : Fn) (first cap : Array Value) (w : World), (Instr.makeFunc fn first cap).run Tryz.prog w = .ok (.func fn first cap) w := fun _ _ _ _ => rfl
  obtain ⟨m, hm⟩ : ∃ m, w.heap.size = m := ⟨_, rfl⟩
  have HM := Lib.hid hm
  rw [hm] at hA hI
  have h1 : (w.alloc (.cells #[.func (.func kv) #[] cv] 22)).heap.size = m + 1 := by simp [hm]
  have h2 : ((w.alloc (.cells #[.func (.func kv) #[] cv] 22)).alloc (.cells #[.nilIface] 56)).heap.size = m + 2 := by simp [hm]
  have b1 : Below w.heap.size w (w.alloc (.cells #[.func (.func kv) #[] cv] 22)) := (Below.refl _ _).alloc (Nat.le_refl _) _
  have b2 : Below (w.alloc (.cells #[.func (.func kv) #[] cv] 22)).heap.size (w.alloc (.cells #[.func (.func kv) #[] cv] 22)) ((w.alloc (.cells #[.func (.func kv) #[] cv] 22)).alloc (.cells #[.nilIface] 56)) := (Below.refl _ _).alloc (Nat.le_refl _) _
  have b12 := b1.trans (b2.mono (by omega))
  have c1 := cell_made w #[.func (.func kv) #[] cv] 22 (0, 0) 0
  rw [hm] at c1
  have c1' := (b2.cell (p := ⟨m, 0, none⟩) (by show m < _; omega)).trans c1
  have c2 := cell_made (w.alloc (.cells #[.func (.func kv) #[] cv] 22)) #[.nilIface] 56 (0, 0) 0
  rw [h1] at c2
  have z2 : ((w.alloc (.cells #[.func (.func kv) #[] cv] 22)).alloc (.cells #[.nilIface] 56)).frozen? ⟨m + 1, 0, none⟩ = false := by rw [← h1]; simp
  obtain ⟨W0, hW0⟩ : ∃ W0, (w.alloc (.cells #[.func (.func kv) #[] cv] 22)).alloc (.cells #[.nilIface] 56) = W0 := ⟨_, rfl⟩
  rw [hW0] at h2 b12 c1' c2 z2
  have HRD := Lib.hid (read_msg s W0 hs (tabs_keep hT b12) (hN.below b12))
  obtain ⟨r, hr⟩ : ∃ r, readP s.data.toList = r := ⟨_, rfl⟩
  rw [hr] at HRD ⊢
  have HA := Lib.hid hA
  have HI := Lib.hid hI
  have HW0 := Lib.hid hW0
  clear hT hN hA hI hr h1 b1 b2 c1 hW0
  go_enter_defers Tryz.func23, Tryz.ntmps23
  go_wp2_with fail
  rw [HW0.out]
  refine HRD.out.mono ?_
  rintro e w1 ⟨hq, hb1⟩
  have hbw1 := b12.trans (hb1.mono (by omega))
  have d1 := (hb1.cell (p := ⟨m, 0, none⟩) (by show m < _; omega)).trans c1'
  have d2 := (hb1.cell (p := ⟨m + 1, 0, none⟩) (by show m + 1 < _; omega)).trans c2
  have y2 := (hb1.frozen (p := ⟨m + 1, 0, none⟩) (by show m + 1 < _; omega)).trans z2
  have hsz := hb1.size
  clear HRD b12 c1' c2 z2
  cases r with
  | error en =>
    obtain ⟨n, a⟩ := en
    obtain ⟨v', b, rfl, ⟨a', n', c', rfl⟩, f0, f1⟩ := hq
    have neE : b ≠ m + 1 := fun e => by rw [e, d2] at f0; cases f0
    have q1 : (w1.setCell ⟨m + 1, 0, none⟩ (.iface 86 (.pointer (some ⟨b, 0, none⟩)))).cell? ⟨m + 1, 0, none⟩ = some (.iface 86 (.pointer (some ⟨b, 0, none⟩))) := by rw [cellSet, if_pos rfl, d2]; rfl
    have hE : ((w1.setCell ⟨m + 1, 0, none⟩ (.iface 86 (.pointer (some ⟨b, 0, none⟩)))).setCell ⟨m + 1, 0, none⟩ (.iface 86 (.pointer (some ⟨b, 0, none⟩)))).cell? ⟨m + 1, 0, none⟩ = some (.iface 86 (.pointer (some ⟨b, 0, none⟩))) := by rw [cellSet, if_pos rfl, q1]; rfl
    have neA : ∀ j : Nat, ¬ (⟨m + 1, 0, none⟩ : Addr) = ⟨b, j, none⟩ := fun j e => neE (congrArg Addr.block e).symm
    have hb3 : Below w.heap.size w ((w1.setCell ⟨m + 1, 0, none⟩ (.iface 86 (.pointer (some ⟨b, 0, none⟩)))).setCell ⟨m + 1, 0, none⟩ (.iface 86 (.pointer (some ⟨b, 0, none⟩)))) := setc_below (setc_below hbw1 (by omega)) (by omega)
    have HF0 := Lib.hid f0
    have HF1 := Lib.hid f1
    clear f0 f1 neE
    go_wp2
    unfold bodyPostD
    simp [Leaves, settle, results, Tryz.results23, go_sem, hE]
    exact ⟨⟨b, rfl, by rw [cellSet, if_neg (neA 0), cellSet, if_neg (neA 0)]; exact HF0.out, by rw [cellSet, if_neg (neA 1), cellSet, if_neg (neA 1)]; exact HF1.out⟩, hb3⟩
  | ok f =>
    obtain ⟨⟨a, c, vs, rfl, hrow, hnod⟩, hgood⟩ := hq
    have HROW := Lib.hid hrow
    have HNOD := Lib.hid hnod
    have HGO := Lib.hid hgood
    have hk1 : KeepR W0.heap.size w1.heap.size w1 (w1.setCell ⟨m + 1, 0, none⟩ .nilIface) := (keep_refl (Nat.le_refl _)).put (by omega) 0 _
    have hbw2 : Below w.heap.size w (w1.setCell ⟨m + 1, 0, none⟩ .nilIface) := setc_below hbw1 (by omega)
    have g1 : (w1.setCell ⟨m + 1, 0, none⟩ .nilIface).cell? ⟨m, 0, none⟩ = some (.func (.func kv) #[] cv) := by rw [cellSet, if_neg (by simp)]; exact d1
    have g2 : (w1.setCell ⟨m + 1, 0, none⟩ .nilIface).cell? ⟨m + 1, 0, none⟩ = some .nilIface := by rw [cellSet, if_pos rfl, d2]; rfl
    have g3 : (w1.setCell ⟨m + 1, 0, none⟩ .nilIface).frozen? ⟨m + 1, 0, none⟩ = false := by rw [World.frozen?_setCell]; exact y2
    have g4 : (w1.setCell ⟨m + 1, 0, none⟩ .nilIface).heap.size = w1.heap.size := by simp [World.setCell]
    obtain ⟨w2, hw2⟩ : ∃ w2, w1.setCell ⟨m + 1, 0, none⟩ .nilIface = w2 := ⟨_, rfl⟩
    rw [hw2] at hk1 hbw2 g1 g2 g3 g4
    obtain ⟨hi, hhi⟩ : ∃ hi, w1.heap.size = hi := ⟨_, rfl⟩
    rw [hhi] at hk1 g4
    have hmh : m + 2 ≤ hi := by omega
    have HAH := HA.out hi (by omega)
    have hY : YieldR (m + 2) hi w2 (.func (.func 38) #[] #[.pointer (some ⟨m, 0, none⟩)]) (fun s b W => I hi s b W ∧ KeepR m hi w2 W) (askF F) := by
      refine ⟨⟨_, _, rfl, fun args w => enters_of Tryz.func38 (by kernel_rfl) rfl args w, fun s room W x u n a hI' hnd hwf hh => ?_⟩, fun s b W h => ⟨h.2.1, fun k k1 k2 => h.2.2 k (by omega) k2⟩, fun s b W W' h hb => ⟨HAH.same _ _ _ _ h.1 (Alt.of hb), h.2.below hb⟩, fun s b b' W h hb => ⟨HAH.less _ _ _ _ h.1 hb, h.2⟩⟩
      have hnl : n.length ≤ 4000001 := by
        cases x with
        | put n0 a0 r => cases hh; simp [Fo.wf] at hwf; exact hwf.1
        | num n0 a0 r => cases hh; simp [Fo.wf] at hwf; exact hwf.1
        | br n0 a0 f0 o0 c0 bs r => cases hh; simp [Fo.wf] at hwf; exact hwf.1.1.1.1.1
        | _ => cases hh
      have hwt : 1 ≤ x.wt := by cases x <;> simp [Fo.wt] <;> omega
      have e : askF F s x = F s n a := by unfold askF; rw [hh]
      rw [e]
      refine (each2_any HAH m s room W u n a (HAH.less _ _ _ _ hI'.1 (by omega)) ((hI'.2.cell (p := ⟨m, 0, none⟩) (Nat.le_refl _) (by show m < _; omega)).trans g1) hnl hI'.2.1).mono ?_
      intro e w' hq
      obtain ⟨h1, h2⟩ := hq
      cases ho : F s n a with
      | pan c s' => rw [ho] at h1; exact ⟨h1.1, h1.2, h2.via hI'.2 (Nat.le_refl _) (Nat.le_refl _)⟩
      | go b s' => rw [ho] at h1; exact ⟨h1.1, h1.2, h2.via hI'.2 (Nat.le_refl _) (Nat.le_refl _)⟩
    have hI2 : I hi s0 (0 + f.cnt) w2 := HAH.less _ _ _ _ (HI.out hi w2 (by omega) (by omega) (by rw [← HM.out]; exact hbw2)) (by have := hgood.cnt; omega)
    have hrow2 := hrow.keep (lo' := m + 2) (hi' := hi) (w' := w2) (by rw [hhi]; exact hk1) (by omega) (by omega)
    have hnod2 := NodesV.keep (lo' := m + 2) (hi' := hi) (w' := w2) (by rw [hhi]; exact hk1) (by omega) (by omega) f vs hnod
    have HE := Lib.hid (each_any hY (SizeOf.sizeOf f + 1) f (Nat.lt_succ_self _) hgood.msg hgood.wf (by have := hgood.len; omega) s0 0 w2 a c vs ⟨hI2, keep_refl (by omega)⟩ hrow2 hnod2)
    have HPN := Lib.hid (fun c s' h => each_pan (G := askF F) (fun s x c s' h => by
      unfold askF at h
      cases hh : headF x with
      | none => rw [hh] at h; cases h
      | some na => rw [hh] at h; exact HAH.pan _ _ _ _ _ h) f s0 c s' h)
    obtain ⟨o, ho⟩ : ∃ o, eachF (askF F) f s0 = o := ⟨_, rfl⟩
    rw [ho] at HE HPN
    have HO := Lib.hid ho
    have HW2 := Lib.hid hw2
    have HAH2 := Lib.hid HAH
    clear hrow hnod hgood hY hI2 hrow2 hnod2 ho hw2 hk1 HAH
    go_wp2_with fail
    rw [HW2.out]
    refine HE.out.mono ?_
    rintro e w3 hq
    have hmm : m ≤ m + 1 := Nat.le_succ m
    cases o with
    | go b s' =>
      obtain ⟨rfl, hi3, hk3⟩ := hq
      have e2 := (hk3.cell (p := ⟨m + 1, 0, none⟩) hmm (by show m + 1 < _; omega)).trans g2
      have e3 : w3.frozen? ⟨m + 1, 0, none⟩ = false := (World.frozen?_of_block (a := ⟨m + 1, 0, none⟩) (hk3.2 (m + 1) hmm (by omega))).trans g3
      have hI4 := HAH2.out.same _ _ _ (w3.setCell ⟨m + 1, 0, none⟩ .nilIface) hi3 (Alt.set w3 _ hmm (by omega))
      have hE : (w3.setCell ⟨m + 1, 0, none⟩ .nilIface).cell? ⟨m + 1, 0, none⟩ = some .nilIface := by rw [cellSet, if_pos rfl, e2]; rfl
      have HI4 := Lib.hid hI4
      clear hi3 hk3 hI4 HE
      go_wp2
      refine leaves_cons (f := 36) (args := #[.pointer (some ⟨m + 1, 0, none⟩)]) (by simp) (by simp [go_sem]) ?_
      refine (each1_idle (m + 1) _).mono ?_
      rintro e u' w'' ⟨rfl, rfl, rfl⟩
      simp [Leaves, settle, results, Tryz.results23, go_sem, hE]
      refine ⟨hi, by rw [HM.out]; omega, ?_⟩
      rw [HO.out]
      exact ⟨rfl, HI4.out⟩
    | pan ch s' =>
      obtain ⟨rfl, hi3, hk3⟩ := hq
      obtain ⟨t, x, rfl⟩ := HPN.out ch s' rfl
      have e2 := (hk3.cell (p := ⟨m + 1, 0, none⟩) hmm (by show m + 1 < _; omega)).trans g2
      have e3 : w3.frozen? ⟨m + 1, 0, none⟩ = false := (World.frozen?_of_block (a := ⟨m + 1, 0, none⟩) (hk3.2 (m + 1) hmm (by omega))).trans g3
      have hI4 := HAH2.out.same _ _ _ (w3.setCell ⟨m + 1, 0, none⟩ (.iface 38 (.int .i64 15))) hi3 (Alt.set w3 _ hmm (by omega))
      have hE : (w3.setCell ⟨m + 1, 0, none⟩ (.iface 38 (.int .i64 15))).cell? ⟨m + 1, 0, none⟩ = some (.iface 38 (.int .i64 15)) := by rw [cellSet, if_pos rfl, e2]; rfl
      have HI4 := Lib.hid hI4
      clear hi3 hk3 hI4 HE
      go_wp2
      refine leaves_cons (f := 36) (args := #[.pointer (some ⟨m + 1, 0, none⟩)]) (by simp) (by simp [go_sem]) ?_
      refine (each1_catch (m + 1) t x _ [] _ e2 e3).mono ?_
      rintro e u' w'' ⟨rfl, rfl, rfl⟩
      simp [Leaves, settle, results, Tryz.results23, go_sem, hE]
      refine ⟨hi, by rw [HM.out]; omega, ?_⟩
      rw [HO.out]
      exact ⟨rfl, HI4.out⟩
end Go.Proofs.YtdelpialeajajaaGreatDoor
