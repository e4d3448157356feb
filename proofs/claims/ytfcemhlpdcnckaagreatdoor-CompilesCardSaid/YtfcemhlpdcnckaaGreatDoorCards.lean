/-
  DERIVED. GIVEN WITH THE SEED: THE CARDS: each row of YtfcemhlpdcnckaaGreatDoorRows.lean that lists a variable, with what it lists TIED to the program's text (the seventh form; the later family's looks); each row that meets fmt, with fmt's text TOLD by the authors' own Lean function (tested against real Go, not proved from fmt's source: count such statements apart). THE CARD IS WHAT COUNTS. Prove the row's statement (the work); the ties are given (YtfcemhlpdcnckaaGreatDoorTie.lean); close each card by the builder's one call (the guide's Derived/Test/ToyasCard.lean, 'card_holds'). Laid BY PROGRAM, IN A SANDBOX (cutbox-door.mjs). By AI agents, Wed Nov 11 2026. No macro, syntax, notation, axiom, sorry.
-/
import Derived.Test.YtfcemhlpdcnckaaGreatDoorRows
import GoSem.ClaimSeven
namespace Go.Proofs.YtfcemhlpdcnckaaGreatDoor
namespace Rows

/-- THE TIED CARD OF 'phraseslaw.Compiles'. -/
def compilesCard : Claim7 := { stood := { row := compilesRow, standIns := [], harness := (true, "9d494d34f2edb801ac8fa6ef5c4b6fb2d1a10904e8dae4c1f904e89b3b368917"), looks := true }, kinds := [], alts := [], laidByText := true, laidKinds := [.data, .data, .data, .data, .handle, .sentinel, .sentinel, .widerDeep, .data, .pinned], laidTests := true, laidLooks := .later }
def CompilesCardSaid : Prop := Claim7.holds Tryz.pinned (.plain (OpenSpec.ofChange compilesSpec)) compilesCard

/-- THE SECOND FORM's CARD OF 'phraseslaw.Compiles'. -/
def compilesUptoCard : Claim7 := { stood := { row := compilesUptoRow, standIns := [], harness := (true, "9d494d34f2edb801ac8fa6ef5c4b6fb2d1a10904e8dae4c1f904e89b3b368917"), looks := true }, kinds := [], alts := [], laidByText := true, laidKinds := [.data, .data, .data, .data, .handle, .sentinel, .sentinel, .widerDeep, .data, .pinned], laidTests := true, laidLooks := .later }
def CompilesUptoCardSaid : Prop := Claim7.holds Tryz.pinned (.plain (OpenSpec.upto compilesSpec)) compilesUptoCard
end Rows
end Go.Proofs.YtfcemhlpdcnckaaGreatDoor
