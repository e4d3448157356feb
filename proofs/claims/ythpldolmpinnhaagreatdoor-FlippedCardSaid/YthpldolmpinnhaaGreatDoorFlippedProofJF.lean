/-
  PROVED: the law Flipped: a pattern that compiles has bytes; a bit turned in one of them is told when they are loaded, and the program's own bytes stay; so the law returns true; each argument reads afterwards as it did.
  Conditions: none beyond the row's own (the listed variables read as the program's text lays them: the given tie).
-/
import Derived.Test.YthpldolmpinnhaaGreatDoorJF41
import Derived.ShutString
open Go.OpenSpec renaming ofChange→z7
open Option.some renaming inj→z8
open Bool renaming and_eq_true→zy
open Go.Proofs.Tryz
namespace Go.Proofs.YthpldolmpinnhaaGreatDoor.flipped
open Go.ChangeShapes Go.WideShapes Go.ChangeAt Go.RowKit
open Go.ChangeMaps (open_string shut_string)

set_option maxRecDepth 100000 in
theorem contract (H : Type) (enc : TypeId × Value → H) (W : World) (base : Nat) (args : Array Value) (ds gs : List (DataW H)) (before : List MemPlace)
    (hval : ∀ (j : Nat) t v, Tryz.f7.params[j]? = some t → args[j]? = some v → Value.okWide prog W .any base t v)
    (hW : DataW.Whole enc prog Tryz.f7.params.toList Rows.flippedSpec.vars false W args.toList ds gs before) (hL : laidMetH prog listed W) (hSh : W.ShapedOpen prog) :
    Calls prog 7 args W fun e W' => ∃ v, e = .returned v ∧ Rows.flippedSpec.post enc prog Tryz.f7 false true false false W args v W' := by
  have hW' := hW
  obtain ⟨p, q, hA0, hV, rfl, VH, XI⟩ := hW
  have hA : DataW.TrodAll enc prog W 0 (fun _ => true) true Tryz.f7.params.toList args.toList ds p := hA0
  rw [Tryz.params7] at hA hval
  obtain ⟨v0, vs0, d0, ds0, p0, q0, yyb, rfl, rfl, h0, r0⟩ := trodAll_cons hA
  obtain ⟨v1, vs1, d1, ds1, p1, q1, rfl, rfl, rfl, h1, r1⟩ := trodAll_cons r0
  obtain ⟨v2, vs2, d2, ds2, p2, q2, rfl, rfl, rfl, h2, r2⟩ := trodAll_cons r1
  obtain ⟨rfl, rfl, rfl⟩ := trodAll_nil r2
  obtain rfl : args = #[v0, v1, v2] := Array.toList_inj.1 yyb
  obtain ⟨rfl, rfl⟩ := trodVars_none hV
  have Jp : ∀ z : Int, (Lit.int .i64 z).wf = true → -9223372036854775808 ≤ z ∧ z ≤ 9223372036854775807 := fun z h => by
    simp [Lit.wf, IntKind.min, IntKind.max, IntKind.signed, IntKind.bits] at h
    omega
  obtain ⟨s0, rfl, rfl, rfl, w0⟩ := open_string underlying9 (hval 0 9 v0 rfl rfl) h0
  have m0 := w0
  unfold maxLen at m0
  obtain ⟨f1, rfl, rfl, rfl, w1⟩ := open_int underlying3 (hval 1 3 v1 rfl rfl) h1
  have m1 := Jp f1 w1
  obtain ⟨f2, rfl, rfl, rfl, w2⟩ := open_int underlying3 (hval 2 3 v2 rfl rfl) h2
  have m2 := Jp f2 w2
  clear hA0
  refine (MS s0 f1 f2 W (by omega) m1 m2 (td hL)).mono fun e W' ⟨he, hb⟩ => ?_
  subst he
  refine ⟨_, rfl, _, _, _, [], [] ++ ([] ++ ([] ++ [])), [], hW', ?_, ?_, ?_, hb.frame _, fun h => by cases h⟩
  · exact trodAll_cons_mk (shut_bool underlying4 _) trodAll_mk0
  · exact trodAll_cons_mk (shut_string underlying9 w0) (trodAll_cons_mk (shut_int underlying3 w1) (trodAll_cons_mk (shut_int underlying3 w2) trodAll_mk0))
  · rfl

theorem reads (os : Os) {H : Type} (enc : TypeId × Value → H) : ∃ places, DataW.whole enc prog ((KL os).forCall (fun _ _ => 0) ⟨#[], #[.string ⟨#[]⟩, .int .i64 0, .int .i64 0], []⟩).memory Tryz.f7.params.toList Rows.flippedSpec.vars false
      #[.string ⟨#[]⟩, .int .i64 0, .int .i64 0].toList 8 = some ([.lit (.string []), .lit (.int .i64 0), .lit (.int .i64 0)], [], places) :=
  ⟨[], by kernel_rfl⟩

set_option maxRecDepth 100000 in
theorem lifted (os : Os) (started : os.Started) (H : Type) (enc : TypeId × Value → H) (F : Stop.Interp) :
    ReturnsInHanded {} Tryz.checked os 7 .any ((z7 Rows.flippedSpec).preRow enc prog Tryz.f7 Rows.flippedRow.domain false Rows.flippedRow.laid) (((z7 Rows.flippedSpec).at F).post enc prog Tryz.f7 false true false false) := by
  obtain ⟨places, hx⟩ := reads os enc
  refine returnsInHanded_of_row (C := Tryz.checked) (s := z7 Rows.flippedSpec) own started (by kernel_rfl) func7
    (witness_row_atRef (enc := enc) (C := Tryz.checked) false (KL os) #[.string ⟨#[]⟩, .int .i64 0, .int .i64 0] rfl (by kernel_rfl) (by kernel_rfl) (by kernel_rfl)
      (OpenSpec.preRow_of_cond 8 hx (by kernel_rfl) (fun k hk => by cases hk) (by kernel_rfl) (eM os _))) ?_
  intro W base args ds gs before hval hW _ _ _ hL hSh _
  exact contract H enc W base args ds gs before hval hW hL hSh

theorem named : Tryz.pinned.checked.prog.funcNamed Rows.flippedRow.func = some 7 := by kernel_rfl
/-- the closed facts of a row, each reckoned alone (all at once they want more memory than a process has) -/
theorem WW {P : Program} {f : FuncId} {fn : Func} {s : ChangeSpec} {c : OpenClaim} (h1 : (c.inPlace == P.inPlace f) = true) (h2 : (c.unfollowed == P.unfollowed f) = true) (h3 : (c.recurses == P.recurses f) = true) (h4 : (c.named == P.varsNamed f) = true) (h5 : (c.wf (z7 s) && laidOutB P && mapsRowed P && fn.params.all (P.readableRec ·) && namedTie P c.named s.vars) = true)
    (h6 : ((c.stops == []) && (P.stops == []) && (c.knobs == []) && (P.stopKnobs == []) &&
      (c.maps == (fn.params.toList ++ s.plain.varTypes P).any (P.mapsRec ·)) && (c.ifaces == (fn.params.toList ++ s.plain.varTypes P).any (P.ifacesRec ·)) && (c.mapsOut == P.mapsAmong fn.resultTypes.toList) &&
      (c.loops == (fn.params.toList ++ s.plain.varTypes P).any (P.loopsFrom ·)) && (c.wideKeys == (fn.params.toList ++ s.plain.varTypes P ++ fn.resultTypes.toList).any (P.wideKeysFrom ·)) &&
      s.vars.all (P.varReadable ·) && fn.resultTypes.all (fun t => P.readableRec t && decide (t < P.types.size)) && (c.ifacesOut == fn.resultTypes.toList.any (P.ifacesRec ·)) && (c.loopsOut == fn.resultTypes.toList.any (P.loopsFrom ·)) && (c.plainKeys == P.plainKeys) && c.shortTexts.isNone) = true)
    (h7 : (P.stopsHeard && P.mayEnter && (c.lifted == P.liftsFinal) && (P.make == some c.make) && (c.kinds == (if c.domain.isEmpty then [] else fn.params.toList.map fun t => match P.underlying t with | some (.int k) => some k | _ => none)) && (c.pinned == c.pinnedBy) &&
      (c.veiled == (fn.params.toList ++ s.plain.varTypes P ++ fn.resultTypes.toList).any (P.veiledRec ·)) && c.veiledFits P fn.params.toList (fn.params.toList ++ s.plain.varTypes P ++ fn.resultTypes.toList)) = true) : joinedFacts P f fn s c = true := by
  simp only [zy] at h5 h6 h7
  simp only [joinedFacts, zy]
  simp only [h1, h2, h3, h4, h5, h6, h7, and_self]
  exact ⟨⟨⟨⟨trivial, h7.1.1.1.2⟩, trivial⟩, trivial⟩, trivial⟩
theorem tB : (Rows.flippedRow.inPlace == Tryz.pinned.checked.prog.inPlace 7) = true := by kernel_rfl
theorem tE : (Rows.flippedRow.unfollowed == Tryz.pinned.checked.prog.unfollowed 7) = true := by kernel_rfl
theorem tH : (Rows.flippedRow.recurses == Tryz.pinned.checked.prog.recurses 7) = true := by kernel_rfl
theorem tI : (Rows.flippedRow.named == Tryz.pinned.checked.prog.varsNamed 7) = true := by kernel_rfl
theorem CO : joinedFacts Tryz.pinned.checked.prog 7 Tryz.f7 (z7 Rows.flippedSpec).bare Rows.flippedRow = true := WW tB tE tH tI (by kernel_rfl) (by kernel_rfl) (by kernel_rfl)
theorem WA : decide (Func.isInstance Tryz.pinned.checked.prog Tryz.f7 Rows.flippedRow.origin Rows.flippedRow.targs) = true := by kernel_rfl
theorem said : Rows.FlippedSaid :=
  OpenClaim.holds_of_cond 7 Tryz.f7 rfl rfl rfl rfl rfl rfl rfl ⟨rfl, rfl, rfl, rfl, rfl⟩ rfl rfl rfl rfl rfl named func7 CO
    (of_decide_eq_true WA) (by unfold Func.isWrapper; first | (rw [if_pos (by decide +kernel)]; kernel_rfl) | (rw [if_neg (by decide +kernel)]; exact ⟨rfl, rfl⟩))
    (fun os started H enc _ F => by rw [OpenClaim.pre_eq_preRow]; exact lifted os started H enc F)

/-- no parameter wants a stand-in -/
theorem plain (f : FuncId) (fn : Func) (hf : Tryz.pinned.checked.prog.funcNamed "phrases/phraseskeep.Flipped" = some f) (hfn : Tryz.pinned.checked.prog.funcs[f]? = some fn) :
    true = Tryz.pinned.checked.prog.looks [] ∧ ∀ (j : Nat) t, fn.params[j]? = some t → Tryz.pinned.checked.prog.wantsStandIn t = false := by
  obtain rfl : f = 7 := z8 ((show prog.funcNamed "phrases/phraseskeep.Flipped" = some 7 by kernel_rfl).symm.trans hf) |>.symm
  obtain rfl : fn = Tryz.f7 := (z8 (func7.symm.trans hfn)).symm
  refine ⟨by kernel_rfl, fun j t ht => ?_⟩
  rw [Tryz.params7] at ht
  have h : t = 3 ∨ t = 9 := by
    rcases j with _ | _ | _ | j
    · exact .inr (by simpa using ht.symm)
    · exact .inl (by simpa using ht.symm)
    · exact .inl (by simpa using ht.symm)
    · simp at ht
  rcases h with rfl | rfl
  · exact (show prog.wantsStandIn 3 = false by kernel_rfl)
  · exact (show prog.wantsStandIn 9 = false by kernel_rfl)

theorem proved : Rows.FlippedCardSaid :=
  Claim7.holds_tied_plain_at .later [] _ _ _ _ said (fun _ h => by cases h) (by kernel_rfl) (fun _ h => by cases h) flipped_row_tie rfl ⟨rfl, rfl⟩ (by kernel_rfl) rfl plain (by kernel_rfl)
#print axioms proved
end Go.Proofs.YthpldolmpinnhaaGreatDoor.flipped
