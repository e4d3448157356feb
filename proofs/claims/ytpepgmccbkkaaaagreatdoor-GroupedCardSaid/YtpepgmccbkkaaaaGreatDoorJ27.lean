import Derived.Test.YtpepgmccbkkaaaaGreatDoorJ26

/- What the rows' lists of package-level variables give, more: the categories' names, strconv's errors. -/
namespace Go.Proofs.YtpepgmccbkkaaaaGreatDoor
open Go.ChangeShapes Go.WideShapes Go.ChangeAt Go.RowKit Go.Lib
set_option maxRecDepth 10000

theorem mem_names : ("phrases/plural.Names", Rows.laid_phrases_plural_Names) ∈ laidL := List.mem_filter.2 ⟨.tail _ (.tail _ (.tail _ (.tail _ (.tail _ (.tail _ (.tail _ (.head _))))))), by kernel_rfl⟩
theorem mem_range : ("strconv.ErrRange", Rows.laid_strconv_ErrRange) ∈ laidL := List.mem_filter.2 ⟨.tail _ (.tail _ (.tail _ (.tail _ (.tail _ (.head _))))), by kernel_rfl⟩
theorem mem_syntax : ("strconv.ErrSyntax", Rows.laid_strconv_ErrSyntax) ∈ laidL := List.mem_filter.2 ⟨.tail _ (.tail _ (.tail _ (.tail _ (.tail _ (.tail _ (.head _)))))), by kernel_rfl⟩
theorem gNames : Tryz.prog.globalNamed "phrases/plural.Names" = some 1 := by kernel_rfl
theorem gNamesT : (Tryz.prog.globals[1]?).map (·.type) = some 116 := by kernel_rfl
theorem gRange : Tryz.prog.globalNamed "strconv.ErrRange" = some 6 := by kernel_rfl
theorem gRangeT : (Tryz.prog.globals[6]?).map (·.type) = some 48 := by kernel_rfl
theorem gSyntax : Tryz.prog.globalNamed "strconv.ErrSyntax" = some 5 := by kernel_rfl
theorem gSyntaxT : (Tryz.prog.globals[5]?).map (·.type) = some 48 := by kernel_rfl
theorem cStr : Tryz.prog.cellsOf 9 = 1 := by kernel_rfl

/-- a datum of an interface is read of an interface's value -/
theorem iface_of {H : Type} {enc : TypeId × Value → H} {P : Program} {w : World} {base : Nat} {sp : Nat → Bool} {held : Bool} {fuel : Nat} {t : TypeId} {cs : List Value} {n : String} {d : DataW H} {p : List MemPlace} (ht : ∃ ms, P.underlying t = some (.interface ms))
    (h : DataW.trod enc P w base sp held fuel t cs = some (.iface n d, p)) : ∃ u v, cs = [.iface u v] := by
  cases fuel with
  | zero => simp [DataW.trod] at h
  | succ k =>
    unfold DataW.trod at h
    obtain ⟨ms, ht⟩ := ht
    rw [ht] at h
    split at h <;> simp_all

theorem iface_read {W : World} {n : String} {g : Nat} {nm : String} {d : DataW Unit} (hg : Tryz.prog.globalNamed n = some g) (hT : (Tryz.prog.globals[g]?).map (·.type) = some 48) (h : VarReads Tryz.prog W n (.iface nm d)) :
    ∃ t v, W.cell? ⟨g, 0, none⟩ = some (.iface t v) := by
  obtain ⟨g', t, cs, fuel, p, hg', hty, hvar, hd⟩ := h
  obtain rfl := Option.some.inj (hg.symm.trans hg')
  obtain rfl := Option.some.inj (hT.symm.trans hty)
  obtain ⟨u, v, hcs⟩ := iface_of ⟨_, Tryz.underlying48⟩ hd
  refine ⟨u, v, ?_⟩
  rw [World.var?_cell hg hvar 0, ← Array.getElem?_toList, hcs]
  rfl

theorem rt_of {W : World} (h : laidMetH Tryz.prog listed W) : RT0 W :=
  ⟨iface_read gSyntax gSyntaxT (Lib.laidMet.reads (met_parts h).1 mem_syntax), iface_read gRange gRangeT (Lib.laidMet.reads (met_parts h).1 mem_range)⟩

theorem names_of {W : World} (h : laidMetH Tryz.prog listed W) : NamesAt W := by
  intro j hj
  obtain ⟨g, t, cs, fuel, p, hg, hty, hvar, hd⟩ := Lib.laidMet.reads (met_parts h).1 mem_names
  obtain rfl := Option.some.inj (gNames.symm.trans hg)
  obtain rfl := Option.some.inj (gNamesT.symm.trans hty)
  obtain ⟨fuel2, d, q, hdi, he⟩ := array_elem Tryz.underlying116 hd j hj
  rw [cStr] at he
  obtain ⟨s, hs, hx, _⟩ := DataW.trod_string Tryz.underlying9 he
  have hc : cs.toList[j]? = some (.string s) := by
    have := congrArg (·[0]?) hs
    simpa [List.getElem?_take, List.getElem?_drop] using this
  rw [World.var?_cell hg hvar j, ← Array.getElem?_toList, hc]
  simp only [Prod.mk.injEq] at hx
  obtain ⟨rfl, _⟩ := hx
  have hs2 : (catsB.getD j ByteArray.empty).data.toList = s.data.toList := by
    match j, hj with
    | 0, _ => (simp at hdi; exact hdi)
    | 1, _ => (simp at hdi; exact hdi)
    | 2, _ => (simp at hdi; exact hdi)
    | 3, _ => (simp at hdi; exact hdi)
    | 4, _ => (simp at hdi; exact hdi)
    | 5, _ => (simp at hdi; exact hdi)
  rw [ByteArray.ext (Array.toList_inj.1 hs2)]

theorem eng_of {W : World} (h : laidMetH Tryz.prog listed W) : EngW W := ⟨tabs_of h, rt_of h, names_of h⟩
end Go.Proofs.YtpepgmccbkkaaaaGreatDoor
