/-
  DERIVED. GIVEN WITH THE SEED: THE CARDS: each row of YtdelpialeajajaaGreatDoorRows.lean that lists a variable, with what it lists TIED to the program's text (the seventh form; the later family's looks); each row that meets fmt, with fmt's text TOLD by the authors' own Lean function (tested against real Go, not proved from fmt's source: count such statements apart). THE CARD IS WHAT COUNTS. Prove the row's statement (the work); the ties are given (YtdelpialeajajaaGreatDoorTie.lean); close each card by the builder's one call (the guide's Derived/Test/ToyasCard.lean, 'card_holds'). Laid BY PROGRAM, IN A SANDBOX (cutbox-door.mjs). By AI agents, Wed Nov 11 2026. No macro, syntax, notation, axiom, sorry.
-/
import Derived.Test.YtdelpialeajajaaGreatDoorRows
import GoSem.ClaimSeven
namespace Go.Proofs.YtdelpialeajajaaGreatDoor
namespace Rows

/-- THE TIED CARD OF 'phraseslaw.Walks'. -/
def walksCard : Claim7 := { stood := { row := walksRow, standIns := [], harness := (true, "008410327970eb67907ff0a8e86e5fd5e7a1750d454ec901af99c4cb5f15cf77"), looks := true }, kinds := [], alts := [], laidByText := true, laidKinds := [.data, .data, .data, .data, .handle, .sentinel, .sentinel, .widerDeep, .pinned], laidTests := true, laidLooks := .later }
def WalksCardSaid : Prop := Claim7.holds Tryz.pinned (.plain (OpenSpec.ofChange walksSpec)) walksCard

/-- THE TIED CARD OF 'phraseslaw.Canons'. -/
def canonsCard : Claim7 := { stood := { row := canonsRow, standIns := [], harness := (true, "008410327970eb67907ff0a8e86e5fd5e7a1750d454ec901af99c4cb5f15cf77"), looks := true }, kinds := [], alts := [], laidByText := true, laidKinds := [.data, .data, .data, .data, .handle, .sentinel, .sentinel, .widerDeep, .data, .pinned], laidTests := true, laidLooks := .later }
def CanonsCardSaid : Prop := Claim7.holds Tryz.pinned (.plain (OpenSpec.ofChange canonsSpec)) canonsCard

/-- THE TIED CARD OF 'phraseslaw.Compiles'. -/
def compilesCard : Claim7 := { stood := { row := compilesRow, standIns := [], harness := (true, "008410327970eb67907ff0a8e86e5fd5e7a1750d454ec901af99c4cb5f15cf77"), looks := true }, kinds := [], alts := [], laidByText := true, laidKinds := [.data, .data, .data, .data, .handle, .sentinel, .sentinel, .widerDeep, .data, .pinned], laidTests := true, laidLooks := .later }
def CompilesCardSaid : Prop := Claim7.holds Tryz.pinned (.plain (OpenSpec.ofChange compilesSpec)) compilesCard

/-- THE SECOND FORM's CARD OF 'phraseslaw.Walks'. -/
def walksUptoCard : Claim7 := { stood := { row := walksUptoRow, standIns := [], harness := (true, "008410327970eb67907ff0a8e86e5fd5e7a1750d454ec901af99c4cb5f15cf77"), looks := true }, kinds := [], alts := [], laidByText := true, laidKinds := [.data, .data, .data, .data, .handle, .sentinel, .sentinel, .widerDeep, .pinned], laidTests := true, laidLooks := .later }
def WalksUptoCardSaid : Prop := Claim7.holds Tryz.pinned (.plain (OpenSpec.upto walksSpec)) walksUptoCard

/-- THE SECOND FORM's CARD OF 'phraseslaw.Canons'. -/
def canonsUptoCard : Claim7 := { stood := { row := canonsUptoRow, standIns := [], harness := (true, "008410327970eb67907ff0a8e86e5fd5e7a1750d454ec901af99c4cb5f15cf77"), looks := true }, kinds := [], alts := [], laidByText := true, laidKinds := [.data, .data, .data, .data, .handle, .sentinel, .sentinel, .widerDeep, .data, .pinned], laidTests := true, laidLooks := .later }
def CanonsUptoCardSaid : Prop := Claim7.holds Tryz.pinned (.plain (OpenSpec.upto canonsSpec)) canonsUptoCard

/-- THE SECOND FORM's CARD OF 'phraseslaw.Compiles'. -/
def compilesUptoCard : Claim7 := { stood := { row := compilesUptoRow, standIns := [], harness := (true, "008410327970eb67907ff0a8e86e5fd5e7a1750d454ec901af99c4cb5f15cf77"), looks := true }, kinds := [], alts := [], laidByText := true, laidKinds := [.data, .data, .data, .data, .handle, .sentinel, .sentinel, .widerDeep, .data, .pinned], laidTests := true, laidLooks := .later }
def CompilesUptoCardSaid : Prop := Claim7.holds Tryz.pinned (.plain (OpenSpec.upto compilesSpec)) compilesUptoCard
end Rows
end Go.Proofs.YtdelpialeajajaaGreatDoor
