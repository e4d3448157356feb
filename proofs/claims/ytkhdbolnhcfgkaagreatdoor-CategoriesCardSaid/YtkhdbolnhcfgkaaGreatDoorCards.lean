/-
  DERIVED. GIVEN WITH THE SEED: THE CARDS: each row of YtkhdbolnhcfgkaaGreatDoorRows.lean that lists a variable, with what it lists TIED to the program's text (the seventh form; the later family's looks); each row that meets fmt, with fmt's text TOLD by the authors' own Lean function (tested against real Go, not proved from fmt's source: count such statements apart). THE CARD IS WHAT COUNTS. Prove the row's statement (the work); the ties are given (YtkhdbolnhcfgkaaGreatDoorTie.lean); close each card by the builder's one call (the guide's Derived/Test/ToyasCard.lean, 'card_holds'). Laid BY PROGRAM, IN A SANDBOX (cutbox-door.mjs). By AI agents, Wed Nov 11 2026. No macro, syntax, notation, axiom, sorry.
-/
import Derived.Test.YtkhdbolnhcfgkaaGreatDoorRows
import GoSem.ClaimSeven
namespace Go.Proofs.YtkhdbolnhcfgkaaGreatDoor
namespace Rows

/-- THE TIED CARD OF 'phraseslaw.Categories'. -/
def categoriesCard : Claim7 := { stood := { row := categoriesRow, standIns := [], harness := (true, "b244486f4e66ee060a55d22acfac4ffe1bcb3fb7224bc79f608f6c13e4268aed"), looks := true }, kinds := [], alts := [], laidByText := true, laidKinds := [.data, .data, .data, .data, .handle, .sentinel, .sentinel, .widerDeep, .pinned], laidTests := true, laidLooks := .later }
def CategoriesCardSaid : Prop := Claim7.holds Tryz.pinned (.plain (OpenSpec.ofChange categoriesSpec)) categoriesCard

/-- THE TIED CARD OF 'phraseskeep.Logic'. -/
def logicCard : Claim7 := { stood := { row := logicRow, standIns := [], harness := (true, "b244486f4e66ee060a55d22acfac4ffe1bcb3fb7224bc79f608f6c13e4268aed"), looks := true }, kinds := [], alts := [], laidByText := true, laidKinds := [.data, .data, .data, .data, .handle, .sentinel, .sentinel, .widerDeep, .pinned], laidTests := true, laidLooks := .later }
def LogicCardSaid : Prop := Claim7.holds Tryz.pinned (.plain (OpenSpec.ofChange logicSpec)) logicCard

/-- THE SECOND FORM's CARD OF 'phraseslaw.Categories'. -/
def categoriesUptoCard : Claim7 := { stood := { row := categoriesUptoRow, standIns := [], harness := (true, "b244486f4e66ee060a55d22acfac4ffe1bcb3fb7224bc79f608f6c13e4268aed"), looks := true }, kinds := [], alts := [], laidByText := true, laidKinds := [.data, .data, .data, .data, .handle, .sentinel, .sentinel, .widerDeep, .pinned], laidTests := true, laidLooks := .later }
def CategoriesUptoCardSaid : Prop := Claim7.holds Tryz.pinned (.plain (OpenSpec.upto categoriesSpec)) categoriesUptoCard

/-- THE SECOND FORM's CARD OF 'phraseskeep.Logic'. -/
def logicUptoCard : Claim7 := { stood := { row := logicUptoRow, standIns := [], harness := (true, "b244486f4e66ee060a55d22acfac4ffe1bcb3fb7224bc79f608f6c13e4268aed"), looks := true }, kinds := [], alts := [], laidByText := true, laidKinds := [.data, .data, .data, .data, .handle, .sentinel, .sentinel, .widerDeep, .pinned], laidTests := true, laidLooks := .later }
def LogicUptoCardSaid : Prop := Claim7.holds Tryz.pinned (.plain (OpenSpec.upto logicSpec)) logicUptoCard
end Rows
end Go.Proofs.YtkhdbolnhcfgkaaGreatDoor
