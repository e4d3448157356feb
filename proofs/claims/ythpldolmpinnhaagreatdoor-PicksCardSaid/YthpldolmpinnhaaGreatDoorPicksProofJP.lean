/-
  PROVED: the law Picks: an exact branch is taken of just that number (of any text up to 60 bytes: what is no number is told), a branch by a text of just that text; so the law returns true; each argument reads afterwards as it did.
  Conditions: none beyond the row's own (the listed variables read as the program's text lays them: the given tie).
-/
import Derived.Test.YthpldolmpinnhaaGreatDoorJP37
import Derived.ShutString
open Go.OpenSpec renaming ofChange→z7
open Option.some renaming inj→z8
open Go.Proofs.Tryz
namespace Go.Proofs.YthpldolmpinnhaaGreatDoor.picks
open Go.ChangeShapes Go.WideShapes Go.ChangeAt Go.RowKit
open Go.ChangeMaps (open_string shut_string)

set_option maxRecDepth 100000 in
theorem contract (H : Type) (enc : TypeId × Value → H) (W : World) (base : Nat) (args : Array Value) (ds gs : List (DataW H)) (before : List MemPlace)
    (hval : ∀ (j : Nat) t v, Tryz.f5.params[j]? = some t → args[j]? = some v → Value.okWide prog W .any base t v)
    (hW : DataW.Whole enc prog Tryz.f5.params.toList Rows.picksSpec.vars false W args.toList ds gs before) (hL : laidMetH prog listed W) (hSh : W.ShapedOpen prog) :
    Calls prog 5 args W fun e W' => ∃ v, e = .returned v ∧ Rows.picksSpec.post enc prog Tryz.f5 false true false false W args v W' := by
  have hW' := hW
  obtain ⟨p, q, hA0, hV, rfl, U3, XG⟩ := hW
  have hA : DataW.TrodAll enc prog W 0 (fun _ => true) true Tryz.f5.params.toList args.toList ds p := hA0
  rw [Tryz.params5] at hA hval
  obtain ⟨v0, vs0, d0, ds0, p0, q0, yz1, rfl, rfl, h0, r0⟩ := trodAll_cons hA
  obtain ⟨v1, vs1, d1, ds1, p1, q1, rfl, rfl, rfl, h1, r1⟩ := trodAll_cons r0
  obtain ⟨v2, vs2, d2, ds2, p2, q2, rfl, rfl, rfl, h2, r2⟩ := trodAll_cons r1
  obtain ⟨rfl, rfl, rfl⟩ := trodAll_nil r2
  obtain rfl : args = #[v0, v1, v2] := Array.toList_inj.1 yz1
  obtain ⟨rfl, rfl⟩ := trodVars_none hV
  have JO : ∀ z : Int, (Lit.int .i64 z).wf = true → -9223372036854775808 ≤ z ∧ z ≤ 9223372036854775807 := fun z h => by
    simp [Lit.wf, IntKind.min, IntKind.max, IntKind.signed, IntKind.bits] at h
    omega
  obtain ⟨f0, rfl, rfl, rfl, w0⟩ := open_int underlying3 (hval 0 3 v0 rfl rfl) h0
  have m0 := JO f0 w0
  obtain ⟨s1, rfl, rfl, rfl, w1⟩ := open_string underlying9 (hval 1 9 v1 rfl rfl) h1
  have m1 := w1
  unfold maxLen at m1
  obtain ⟨f2, rfl, rfl, rfl, w2⟩ := open_int underlying3 (hval 2 3 v2 rfl rfl) h2
  have m2 := JO f2 w2
  clear hA0
  refine (Wk f0 s1 f2 W m0 (by omega) m2 (re hL)).mono fun e W' ⟨he, hb⟩ => ?_
  subst he
  refine ⟨_, rfl, _, _, _, [], [] ++ ([] ++ ([] ++ [])), [], hW', ?_, ?_, ?_, hb.frame _, fun h => by cases h⟩
  · exact trodAll_cons_mk (shut_bool underlying4 _) trodAll_mk0
  · exact trodAll_cons_mk (shut_int underlying3 w0) (trodAll_cons_mk (shut_string underlying9 w1) (trodAll_cons_mk (shut_int underlying3 w2) trodAll_mk0))
  · rfl

theorem reads (os : Os) {H : Type} (enc : TypeId × Value → H) : ∃ places, DataW.whole enc prog ((KG os).forCall (fun _ _ => 0) ⟨#[], #[.int .i64 0, .string ⟨#[]⟩, .int .i64 0], []⟩).memory Tryz.f5.params.toList Rows.picksSpec.vars false
      #[.int .i64 0, .string ⟨#[]⟩, .int .i64 0].toList 8 = some ([.lit (.int .i64 0), .lit (.string []), .lit (.int .i64 0)], [], places) :=
  ⟨[], by kernel_rfl⟩

set_option maxRecDepth 100000 in
theorem lifted (os : Os) (started : os.Started) (H : Type) (enc : TypeId × Value → H) (F : Stop.Interp) :
    ReturnsInHanded {} Tryz.checked os 5 .any ((z7 Rows.picksSpec).preRow enc prog Tryz.f5 Rows.picksRow.domain false Rows.picksRow.laid) (((z7 Rows.picksSpec).at F).post enc prog Tryz.f5 false true false false) := by
  obtain ⟨places, hx⟩ := reads os enc
  refine returnsInHanded_of_row (C := Tryz.checked) (s := z7 Rows.picksSpec) own started (by kernel_rfl) func5
    (witness_row_atRef (enc := enc) (C := Tryz.checked) false (KG os) #[.int .i64 0, .string ⟨#[]⟩, .int .i64 0] rfl (by kernel_rfl) (by kernel_rfl) (by kernel_rfl)
      (OpenSpec.preRow_of_cond 8 hx (by kernel_rfl) (fun k hk => by cases hk) (by kernel_rfl) (ey os _))) ?_
  intro W base args ds gs before hval hW _ _ _ hL hSh _
  exact contract H enc W base args ds gs before hval hW hL hSh

theorem named : Tryz.pinned.checked.prog.funcNamed Rows.picksRow.func = some 5 := by kernel_rfl
theorem Ck : joinedFacts Tryz.pinned.checked.prog 5 Tryz.f5 (z7 Rows.picksSpec).bare Rows.picksRow = true := by kernel_rfl
theorem Wj : decide (Func.isInstance Tryz.pinned.checked.prog Tryz.f5 Rows.picksRow.origin Rows.picksRow.targs) = true := by kernel_rfl
theorem said : Rows.PicksSaid :=
  OpenClaim.holds_of_cond 5 Tryz.f5 rfl rfl rfl rfl rfl rfl rfl ⟨rfl, rfl, rfl, rfl, rfl⟩ rfl rfl rfl rfl rfl named func5 Ck
    (of_decide_eq_true Wj) (by unfold Func.isWrapper; first | (rw [if_pos (by decide +kernel)]; kernel_rfl) | (rw [if_neg (by decide +kernel)]; exact ⟨rfl, rfl⟩))
    (fun os started H enc _ F => by rw [OpenClaim.pre_eq_preRow]; exact lifted os started H enc F)

/-- no parameter wants a stand-in -/
theorem plain (f : FuncId) (fn : Func) (hf : Tryz.pinned.checked.prog.funcNamed "phrases/phraseskeep.Picks" = some f) (hfn : Tryz.pinned.checked.prog.funcs[f]? = some fn) :
    true = Tryz.pinned.checked.prog.looks [] ∧ ∀ (j : Nat) t, fn.params[j]? = some t → Tryz.pinned.checked.prog.wantsStandIn t = false := by
  obtain rfl : f = 5 := z8 ((show prog.funcNamed "phrases/phraseskeep.Picks" = some 5 by kernel_rfl).symm.trans hf) |>.symm
  obtain rfl : fn = Tryz.f5 := (z8 (func5.symm.trans hfn)).symm
  refine ⟨by kernel_rfl, fun j t ht => ?_⟩
  rw [Tryz.params5] at ht
  have h : t = 3 ∨ t = 9 := by
    rcases j with _ | _ | _ | j
    · exact .inl (by simpa using ht.symm)
    · exact .inr (by simpa using ht.symm)
    · exact .inl (by simpa using ht.symm)
    · simp at ht
  rcases h with rfl | rfl
  · exact (show prog.wantsStandIn 3 = false by kernel_rfl)
  · exact (show prog.wantsStandIn 9 = false by kernel_rfl)

theorem proved : Rows.PicksCardSaid :=
  Claim7.holds_tied_plain_at .later [] _ _ _ _ said (fun _ h => by cases h) (by kernel_rfl) (fun _ h => by cases h) picks_row_tie rfl ⟨rfl, rfl⟩ (by kernel_rfl) rfl plain (by kernel_rfl)
#print axioms proved
end Go.Proofs.YthpldolmpinnhaaGreatDoor.picks
