/-
  DERIVED. GIVEN WITH THE SEED: THE CARDS: each row of YthpldolmpinnhaaGreatDoorRows.lean that lists a variable, with what it lists TIED to the program's text (the seventh form; the later family's looks); each row that meets fmt, with fmt's text TOLD by the authors' own Lean function (tested against real Go, not proved from fmt's source: count such statements apart). THE CARD IS WHAT COUNTS. Prove the row's statement (the work); the ties are given (YthpldolmpinnhaaGreatDoorTie.lean); close each card by the builder's one call (the guide's Derived/Test/ToyasCard.lean, 'card_holds'). Laid BY PROGRAM, IN A SANDBOX (cutbox-door.mjs). By AI agents, Wed Nov 11 2026. No macro, syntax, notation, axiom, sorry.
-/
import Derived.Test.YthpldolmpinnhaaGreatDoorRows
import GoSem.ClaimSeven
namespace Go.Proofs.YthpldolmpinnhaaGreatDoor
namespace Rows

/-- THE TIED CARD OF 'phraseskeep.Plain'. -/
def plainCard : Claim7 := { stood := { row := plainRow, standIns := [], harness := (true, "6c859b7f10a76d648ab218c7ee7bf507b69750d20f761db7ca7b65cd30325444"), looks := true }, kinds := [], alts := [], laidByText := true, laidKinds := [.data, .data, .data, .data, .handle, .sentinel, .sentinel, .widerDeep, .data, .pinned], laidTests := true, laidLooks := .later }
def PlainCardSaid : Prop := Claim7.holds Tryz.pinned (.plain (OpenSpec.ofChange plainSpec)) plainCard

/-- THE TIED CARD OF 'phraseskeep.Shifted'. -/
def shiftedCard : Claim7 := { stood := { row := shiftedRow, standIns := [], harness := (true, "6c859b7f10a76d648ab218c7ee7bf507b69750d20f761db7ca7b65cd30325444"), looks := true }, kinds := [], alts := [], laidByText := true, laidKinds := [.data, .data, .data, .data, .handle, .sentinel, .sentinel, .widerDeep, .data, .pinned], laidTests := true, laidLooks := .later }
def ShiftedCardSaid : Prop := Claim7.holds Tryz.pinned (.plain (OpenSpec.ofChange shiftedSpec)) shiftedCard

/-- THE TIED CARD OF 'phraseskeep.Picks'. -/
def picksCard : Claim7 := { stood := { row := picksRow, standIns := [], harness := (true, "6c859b7f10a76d648ab218c7ee7bf507b69750d20f761db7ca7b65cd30325444"), looks := true }, kinds := [], alts := [], laidByText := true, laidKinds := [.data, .data, .data, .data, .handle, .sentinel, .sentinel, .widerDeep, .data, .pinned], laidTests := true, laidLooks := .later }
def PicksCardSaid : Prop := Claim7.holds Tryz.pinned (.plain (OpenSpec.ofChange picksSpec)) picksCard

/-- THE TIED CARD OF 'phraseskeep.Fits'. -/
def fitsCard : Claim7 := { stood := { row := fitsRow, standIns := [], harness := (true, "6c859b7f10a76d648ab218c7ee7bf507b69750d20f761db7ca7b65cd30325444"), looks := true }, kinds := [], alts := [], laidByText := true, laidKinds := [.data, .data, .data, .data, .handle, .sentinel, .sentinel, .widerDeep, .data, .pinned], laidTests := true, laidLooks := .later }
def FitsCardSaid : Prop := Claim7.holds Tryz.pinned (.plain (OpenSpec.ofChange fitsSpec)) fitsCard

/-- THE TIED CARD OF 'phraseskeep.Flipped'. -/
def flippedCard : Claim7 := { stood := { row := flippedRow, standIns := [], harness := (true, "6c859b7f10a76d648ab218c7ee7bf507b69750d20f761db7ca7b65cd30325444"), looks := true }, kinds := [], alts := [], laidByText := true, laidKinds := [.data, .data, .data, .data, .handle, .sentinel, .sentinel, .widerDeep, .data, .pinned], laidTests := true, laidLooks := .later }
def FlippedCardSaid : Prop := Claim7.holds Tryz.pinned (.plain (OpenSpec.ofChange flippedSpec)) flippedCard

/-- THE TIED CARD OF 'phraseskeep.Known'. -/
def knownCard : Claim7 := { stood := { row := knownRow, standIns := [], harness := (true, "6c859b7f10a76d648ab218c7ee7bf507b69750d20f761db7ca7b65cd30325444"), looks := true }, kinds := [], alts := [], laidByText := true, laidKinds := [.data, .data, .data, .data, .handle, .sentinel, .sentinel, .widerDeep, .data, .data, .pinned], laidTests := true, laidLooks := .later }
def KnownCardSaid : Prop := Claim7.holds Tryz.pinned (.plain (OpenSpec.ofChange knownSpec)) knownCard

/-- THE TIED CARD OF 'phraseskeep.Again'. -/
def againCard : Claim7 := { stood := { row := againRow, standIns := [], harness := (true, "6c859b7f10a76d648ab218c7ee7bf507b69750d20f761db7ca7b65cd30325444"), looks := true }, kinds := [], alts := [], laidByText := true, laidKinds := [.data, .data, .data, .data, .handle, .sentinel, .sentinel, .widerDeep, .data, .data, .pinned], laidTests := true, laidLooks := .later }
def AgainCardSaid : Prop := Claim7.holds Tryz.pinned (.plain (OpenSpec.ofChange againSpec)) againCard

/-- THE SECOND FORM's CARD OF 'phraseskeep.Plain'. -/
def plainUptoCard : Claim7 := { stood := { row := plainUptoRow, standIns := [], harness := (true, "6c859b7f10a76d648ab218c7ee7bf507b69750d20f761db7ca7b65cd30325444"), looks := true }, kinds := [], alts := [], laidByText := true, laidKinds := [.data, .data, .data, .data, .handle, .sentinel, .sentinel, .widerDeep, .data, .pinned], laidTests := true, laidLooks := .later }
def PlainUptoCardSaid : Prop := Claim7.holds Tryz.pinned (.plain (OpenSpec.upto plainSpec)) plainUptoCard

/-- THE SECOND FORM's CARD OF 'phraseskeep.Shifted'. -/
def shiftedUptoCard : Claim7 := { stood := { row := shiftedUptoRow, standIns := [], harness := (true, "6c859b7f10a76d648ab218c7ee7bf507b69750d20f761db7ca7b65cd30325444"), looks := true }, kinds := [], alts := [], laidByText := true, laidKinds := [.data, .data, .data, .data, .handle, .sentinel, .sentinel, .widerDeep, .data, .pinned], laidTests := true, laidLooks := .later }
def ShiftedUptoCardSaid : Prop := Claim7.holds Tryz.pinned (.plain (OpenSpec.upto shiftedSpec)) shiftedUptoCard

/-- THE SECOND FORM's CARD OF 'phraseskeep.Picks'. -/
def picksUptoCard : Claim7 := { stood := { row := picksUptoRow, standIns := [], harness := (true, "6c859b7f10a76d648ab218c7ee7bf507b69750d20f761db7ca7b65cd30325444"), looks := true }, kinds := [], alts := [], laidByText := true, laidKinds := [.data, .data, .data, .data, .handle, .sentinel, .sentinel, .widerDeep, .data, .pinned], laidTests := true, laidLooks := .later }
def PicksUptoCardSaid : Prop := Claim7.holds Tryz.pinned (.plain (OpenSpec.upto picksSpec)) picksUptoCard

/-- THE SECOND FORM's CARD OF 'phraseskeep.Fits'. -/
def fitsUptoCard : Claim7 := { stood := { row := fitsUptoRow, standIns := [], harness := (true, "6c859b7f10a76d648ab218c7ee7bf507b69750d20f761db7ca7b65cd30325444"), looks := true }, kinds := [], alts := [], laidByText := true, laidKinds := [.data, .data, .data, .data, .handle, .sentinel, .sentinel, .widerDeep, .data, .pinned], laidTests := true, laidLooks := .later }
def FitsUptoCardSaid : Prop := Claim7.holds Tryz.pinned (.plain (OpenSpec.upto fitsSpec)) fitsUptoCard

/-- THE SECOND FORM's CARD OF 'phraseskeep.Flipped'. -/
def flippedUptoCard : Claim7 := { stood := { row := flippedUptoRow, standIns := [], harness := (true, "6c859b7f10a76d648ab218c7ee7bf507b69750d20f761db7ca7b65cd30325444"), looks := true }, kinds := [], alts := [], laidByText := true, laidKinds := [.data, .data, .data, .data, .handle, .sentinel, .sentinel, .widerDeep, .data, .pinned], laidTests := true, laidLooks := .later }
def FlippedUptoCardSaid : Prop := Claim7.holds Tryz.pinned (.plain (OpenSpec.upto flippedSpec)) flippedUptoCard

/-- THE SECOND FORM's CARD OF 'phraseskeep.Known'. -/
def knownUptoCard : Claim7 := { stood := { row := knownUptoRow, standIns := [], harness := (true, "6c859b7f10a76d648ab218c7ee7bf507b69750d20f761db7ca7b65cd30325444"), looks := true }, kinds := [], alts := [], laidByText := true, laidKinds := [.data, .data, .data, .data, .handle, .sentinel, .sentinel, .widerDeep, .data, .data, .pinned], laidTests := true, laidLooks := .later }
def KnownUptoCardSaid : Prop := Claim7.holds Tryz.pinned (.plain (OpenSpec.upto knownSpec)) knownUptoCard

/-- THE SECOND FORM's CARD OF 'phraseskeep.Again'. -/
def againUptoCard : Claim7 := { stood := { row := againUptoRow, standIns := [], harness := (true, "6c859b7f10a76d648ab218c7ee7bf507b69750d20f761db7ca7b65cd30325444"), looks := true }, kinds := [], alts := [], laidByText := true, laidKinds := [.data, .data, .data, .data, .handle, .sentinel, .sentinel, .widerDeep, .data, .data, .pinned], laidTests := true, laidLooks := .later }
def AgainUptoCardSaid : Prop := Claim7.holds Tryz.pinned (.plain (OpenSpec.upto againSpec)) againUptoCard
end Rows
end Go.Proofs.YthpldolmpinnhaaGreatDoor
