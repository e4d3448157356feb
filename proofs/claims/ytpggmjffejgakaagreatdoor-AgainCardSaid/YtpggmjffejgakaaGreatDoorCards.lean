/-
  DERIVED. GIVEN WITH THE SEED: THE CARDS: each row of YtpggmjffejgakaaGreatDoorRows.lean that lists a variable, with what it lists TIED to the program's text (the seventh form; the later family's looks); each row that meets fmt, with fmt's text TOLD by the authors' own Lean function (tested against real Go, not proved from fmt's source: count such statements apart). THE CARD IS WHAT COUNTS. Prove the row's statement (the work); the ties are given (YtpggmjffejgakaaGreatDoorTie.lean); close each card by the builder's one call (the guide's Derived/Test/ToyasCard.lean, 'card_holds'). Laid BY PROGRAM, IN A SANDBOX (cutbox-door.mjs). By AI agents, Wed Nov 11 2026. No macro, syntax, notation, axiom, sorry.
-/
import Derived.Test.YtpggmjffejgakaaGreatDoorRows
import GoSem.ClaimSeven
namespace Go.Proofs.YtpggmjffejgakaaGreatDoor
namespace Rows

/-- THE TIED CARD OF 'phraseskeep.Again'. -/
def againCard : Claim7 := { stood := { row := againRow, standIns := [], harness := (true, "3e13da8390df55c656f1b2d11407fc994e5a06cd0a60049a2bf493c0ea04d6ec"), looks := true }, kinds := [], alts := [], laidByText := true, laidKinds := [.data, .data, .data, .data, .handle, .sentinel, .sentinel, .widerDeep, .data, .data, .pinned], laidTests := true, laidLooks := .later }
def AgainCardSaid : Prop := Claim7.holds Tryz.pinned (.plain (OpenSpec.ofChange againSpec)) againCard

/-- THE SECOND FORM's CARD OF 'phraseskeep.Again'. -/
def againUptoCard : Claim7 := { stood := { row := againUptoRow, standIns := [], harness := (true, "3e13da8390df55c656f1b2d11407fc994e5a06cd0a60049a2bf493c0ea04d6ec"), looks := true }, kinds := [], alts := [], laidByText := true, laidKinds := [.data, .data, .data, .data, .handle, .sentinel, .sentinel, .widerDeep, .data, .data, .pinned], laidTests := true, laidLooks := .later }
def AgainUptoCardSaid : Prop := Claim7.holds Tryz.pinned (.plain (OpenSpec.upto againSpec)) againUptoCard
end Rows
end Go.Proofs.YtpggmjffejgakaaGreatDoor
