import Derived.Test.YtdelpialeajajaaGreatDoorJC1
import Derived.Deep.RegionHeld3

/- Regions that draw their order: what only reads is taken first, in an order that the prover names; what is left goes one by one. -/
namespace Go.Proofs.YtdelpialeajajaaGreatDoor
open Go Go.RowKit

section
variable {P : Program} {ops : Array Oper} {Q : Exit → Act → World → Prop} {md : Region.Mode} {S : World → Prop}

/-- an operation of a list, so that it is laid bare by reckoning -/
def nthOp : List Oper → Nat → Option Oper
  | [], _ => none
  | o :: _, 0 => some o
  | _ :: l, n + 1 => nthOp l n

theorem nthOp_eq : ∀ (l : List Oper) (i : Nat), nthOp l i = l.toArray[i]?
  | [], i => by simp [nthOp]
  | o :: l, 0 => by simp [nthOp]
  | o :: l, n + 1 => by simpa [nthOp] using nthOp_eq l n

/-- the operations of a list are run one by one, each yields one value in every world that meets S -/
def takes (P : Program) (ops : Array Oper) (S : World → Prop) (K : Act → Prop) : List Nat → Act → Prop
  | [], a => K a
  | i :: is, a => ∃ o v, ops[i]? = some o ∧ YieldsIf P ops S o v a ∧ takes P ops S K is (a.put o.dst v)

/-- may they be taken so? -/
def takesB (md : Region.Mode) (ops : Array Oper) : List Nat → Array Bool → Bool
  | [], _ => true
  | i :: is, listed => Region.free md ops listed i && (Region.ready md ops listed).contains i && takesB md ops is (listed.setIfInBounds i true)

def markAll (listed : Array Bool) (is : List Nat) : Array Bool := is.foldl (fun l i => l.setIfInBounds i true) listed

theorem takes_yes {K : Act → Prop} {l : List Oper} {i : Nat} {is : List Nat} {a : Act} {o : Oper} {v : Value} (ho : nthOp l i = some o) (hw : Region.wanted o (yielded l.toArray a.tmps) = true)
    (hy : ∀ w, S w → (execOp a.eval o).run P w = .ok (.value v) w) (h : takes P l.toArray S K is (a.put o.dst v)) : takes P l.toArray S K (i :: is) a :=
  ⟨o, v, (nthOp_eq l i).symm.trans ho, .inl ⟨hw, hy⟩, h⟩

theorem takes_no {K : Act → Prop} {l : List Oper} {i : Nat} {is : List Nat} {a : Act} {o : Oper} (ho : nthOp l i = some o) (hw : Region.wanted o (yielded l.toArray a.tmps) = false)
    (h : takes P l.toArray S K is (a.put o.dst undef)) : takes P l.toArray S K (i :: is) a :=
  ⟨o, undef, (nthOp_eq l i).symm.trans ho, .inr ⟨hw, rfl⟩, h⟩

theorem takes_nil {K : Act → Prop} {a : Act} (h : K a) : takes P ops S K [] a := h

theorem wpAnyH_takes (hQ : ∀ c a d v w, Q (.panic c) (a.put d v) w → Q (.panic c) a w) (hs : Region.noSelect ops = true) {w : World} (hS : S w) {fuel : Nat} :
    ∀ (is : List Nat) (listed : Array Bool) (a : Act), takesB md ops is listed = true →
      takes P ops S (fun a' => wpAnyH P md ops Q S fuel (markAll listed is) a' w) is a → wpAnyH P md ops Q S (fuel + is.length) listed a w
  | [], _, _, _, h => h
  | i :: is, listed, a, hB, ⟨o, v, ho, hy, h⟩ => by
    simp only [takesB, Bool.and_eq_true] at hB
    rw [List.length_cons, ← Nat.add_assoc]
    exact wpAnyH_take ho hs hB.1.1 hB.1.2 (fun c a w => hQ c a o.dst v w) hy hS (wpAnyH_takes hQ hs hS is _ _ hB.2 h)

/-- the beginning: a region whose operations 'is' are taken first; 'fuel' are left -/
theorem wp_region_takes {id : Nat} {l : List Oper} {a : Act} {w : World} (S : World → Prop) (is : List Nat) (fuel : Nat) (hQ : ∀ c a d v w, Q (.panic c) (a.put d v) w → Q (.panic c) a w)
    (hm : P.follows .mixedOrders = true) (hn : (Region.noSelect l.toArray && decide (l.length = fuel + is.length) && takesB .any l.toArray is (Array.replicate l.toArray.size false)) = true) (hS : S w.drew)
    (h : takes P l.toArray S (fun a' => wpAnyH P .any l.toArray Q S fuel (markAll (Array.replicate l.toArray.size false) is) a' w.drew) is a) : (Code.region id l.toArray true).wp P Q a w := by
  simp only [Bool.and_eq_true, decide_eq_true_eq] at hn
  refine wp_region_held (S := S) hm ?_
  have h1 := wpAnyH_takes (Q := Q) (md := .any) (ops := l.toArray) hQ hn.1.1 hS is _ a hn.2 h
  have h2 : l.toArray.size = fuel + is.length := by simpa using hn.1.2
  rw [h2]
  rw [h2] at h1
  exact h1

/-- more are taken, behind an operation that was carried out -/
theorem wpAnyH_more {w : World} (is : List Nat) (fuel : Nat) {f : Nat} {listed : Array Bool} {a : Act} (hf : f = fuel + is.length) (hQ : ∀ c a d v w, Q (.panic c) (a.put d v) w → Q (.panic c) a w)
    (hs : Region.noSelect ops = true) (hB : takesB md ops is listed = true) (hS : S w)
    (h : takes P ops S (fun a' => wpAnyH P md ops Q S fuel (markAll listed is) a' w) is a) : wpAnyH P md ops Q S f listed a w := by
  subst hf
  exact wpAnyH_takes hQ hs hS is listed a hB h

/-- the only one that may come up now -/
theorem wpAnyH_only {l : List Oper} {w : World} (i : Nat) {fuel : Nat} {listed : Array Bool} {a : Act} {o : Oper} (hr : Region.ready md l.toArray listed = [i]) (ho : nthOp l i = some o)
    (h : ∀ K' : Act → World → Prop, Shut (∀ a w, S w → (S w → wpAnyH P md l.toArray Q S fuel (listed.setIfInBounds i true) a w) → K' a w) → if Region.wanted o (yielded l.toArray a.tmps) = true then Oper.wp P o a w K' Q else K' (a.put o.dst undef) w) :
    wpAnyH P md l.toArray Q S (fuel + 1) listed a w :=
  wpAnyH_ready hr (by simp) (AllReadyH.cons ((nthOp_eq l i).symm.trans ho) h AllReadyH.nil)
end
end Go.Proofs.YtdelpialeajajaaGreatDoor
