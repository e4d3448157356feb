/-
  DERIVED. GIVEN WITH THE SEED: THE CARDS: each row of YtpepgmccbkkaaaaGreatDoorRows.lean that lists a variable, with what it lists TIED to the program's text (the seventh form; the later family's looks); each row that meets fmt, with fmt's text TOLD by the authors' own Lean function (tested against real Go, not proved from fmt's source: count such statements apart). THE CARD IS WHAT COUNTS. Prove the row's statement (the work); the ties are given (YtpepgmccbkkaaaaGreatDoorTie.lean); close each card by the builder's one call (the guide's Derived/Test/ToyasCard.lean, 'card_holds'). Laid BY PROGRAM, IN A SANDBOX (cutbox-door.mjs). By AI agents, Wed Nov 11 2026. No macro, syntax, notation, axiom, sorry.
-/
import Derived.Test.YtpepgmccbkkaaaaGreatDoorRows
import GoSem.ClaimSeven
namespace Go.Proofs.YtpepgmccbkkaaaaGreatDoor
namespace Rows

/-- THE TIED CARD OF 'phraseslaw.Numbers'. -/
def numbersCard : Claim7 := { stood := { row := numbersRow, standIns := [], harness := (true, "cae1173d650a44b7e3a87413ecd5ac31cb49de33c09648065511e52450b6cb90"), looks := true }, kinds := [], alts := [], laidByText := true, laidKinds := [.data, .data, .data, .data, .handle, .sentinel, .sentinel, .widerDeep, .pinned], laidTests := true, laidLooks := .later }
def NumbersCardSaid : Prop := Claim7.holds Tryz.pinned (.plain (OpenSpec.ofChange numbersSpec)) numbersCard

/-- THE TIED CARD OF 'phraseskeep.Grouped'. -/
def groupedCard : Claim7 := { stood := { row := groupedRow, standIns := [], harness := (true, "cae1173d650a44b7e3a87413ecd5ac31cb49de33c09648065511e52450b6cb90"), looks := true }, kinds := [], alts := [], laidByText := true, laidKinds := [.data, .data, .data, .data, .handle, .sentinel, .sentinel, .widerDeep, .pinned], laidTests := true, laidLooks := .later }
def GroupedCardSaid : Prop := Claim7.holds Tryz.pinned (.plain (OpenSpec.ofChange groupedSpec)) groupedCard

/-- THE SECOND FORM's CARD OF 'phraseslaw.Numbers'. -/
def numbersUptoCard : Claim7 := { stood := { row := numbersUptoRow, standIns := [], harness := (true, "cae1173d650a44b7e3a87413ecd5ac31cb49de33c09648065511e52450b6cb90"), looks := true }, kinds := [], alts := [], laidByText := true, laidKinds := [.data, .data, .data, .data, .handle, .sentinel, .sentinel, .widerDeep, .pinned], laidTests := true, laidLooks := .later }
def NumbersUptoCardSaid : Prop := Claim7.holds Tryz.pinned (.plain (OpenSpec.upto numbersSpec)) numbersUptoCard

/-- THE SECOND FORM's CARD OF 'phraseskeep.Grouped'. -/
def groupedUptoCard : Claim7 := { stood := { row := groupedUptoRow, standIns := [], harness := (true, "cae1173d650a44b7e3a87413ecd5ac31cb49de33c09648065511e52450b6cb90"), looks := true }, kinds := [], alts := [], laidByText := true, laidKinds := [.data, .data, .data, .data, .handle, .sentinel, .sentinel, .widerDeep, .pinned], laidTests := true, laidLooks := .later }
def GroupedUptoCardSaid : Prop := Claim7.holds Tryz.pinned (.plain (OpenSpec.upto groupedSpec)) groupedUptoCard
end Rows
end Go.Proofs.YtpepgmccbkkaaaaGreatDoor
