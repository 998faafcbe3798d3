/-
  DERIVED. GIVEN WITH THE SEED: THE CARDS: each row of YtnpbglnfnhejiaaGreatDoorRows.lean that lists a variable, with what it lists TIED to the program's text (the seventh form; the later family's looks); each row that meets fmt, with fmt's text TOLD by the authors' own Lean function (tested against real Go, not proved from fmt's source: count such statements apart). THE CARD IS WHAT COUNTS. Prove the row's statement (the work); the ties are given (YtnpbglnfnhejiaaGreatDoorTie.lean); close each card by the builder's one call (the guide's Derived/Test/ToyasCard.lean, 'card_holds'). Laid BY PROGRAM, IN A SANDBOX (cutbox-door.mjs). By AI agents, Wed Nov 11 2026. No macro, syntax, notation, axiom, sorry.
-/
import Derived.Test.YtnpbglnfnhejiaaGreatDoorRows
import GoSem.ClaimSeven
namespace Go.Proofs.YtnpbglnfnhejiaaGreatDoor
namespace Rows

/-- THE TIED CARD OF 'flashlaw1.WordsFound'. -/
def wordsFoundCard : Claim7 := { stood := { row := wordsFoundRow, standIns := [], harness := (true, "d92488f82dafc2d645f10cdbd01bccb13d7ea1cd16a644bf553257bed8767e16"), looks := true }, kinds := [], alts := [], laidByText := true, laidKinds := [.data, .data, .data, .data, .sentinel, .sentinel, .pinned], laidTests := true, laidLooks := .later }
def WordsFoundCardSaid : Prop := Claim7.holds Tryz.pinned (.plain (OpenSpec.ofChange wordsFoundSpec)) wordsFoundCard

/-- THE TIED CARD OF 'flashlaw1.NumbersMove'. -/
def numbersMoveCard : Claim7 := { stood := { row := numbersMoveRow, standIns := [], harness := (true, "d92488f82dafc2d645f10cdbd01bccb13d7ea1cd16a644bf553257bed8767e16"), looks := true }, kinds := [], alts := [], laidByText := true, laidKinds := [.data, .data, .data, .data, .sentinel, .sentinel, .pinned], laidTests := true, laidLooks := .later }
def NumbersMoveCardSaid : Prop := Claim7.holds Tryz.pinned (.plain (OpenSpec.ofChange numbersMoveSpec)) numbersMoveCard

/-- THE TIED CARD OF 'flashkeep2.PresenceTells'. -/
def presenceTellsCard : Claim7 := { stood := { row := presenceTellsRow, standIns := [], harness := (true, "d92488f82dafc2d645f10cdbd01bccb13d7ea1cd16a644bf553257bed8767e16"), looks := true }, kinds := [], alts := [], laidByText := true, laidKinds := [.data, .data, .pinned], laidTests := true, laidLooks := .later }
def PresenceTellsCardSaid : Prop := Claim7.holds Tryz.pinned (.plain (OpenSpec.ofChange presenceTellsSpec)) presenceTellsCard

/-- THE SECOND FORM's CARD OF 'flashlaw1.WordsFound'. -/
def wordsFoundUptoCard : Claim7 := { stood := { row := wordsFoundUptoRow, standIns := [], harness := (true, "d92488f82dafc2d645f10cdbd01bccb13d7ea1cd16a644bf553257bed8767e16"), looks := true }, kinds := [], alts := [], laidByText := true, laidKinds := [.data, .data, .data, .data, .sentinel, .sentinel, .pinned], laidTests := true, laidLooks := .later }
def WordsFoundUptoCardSaid : Prop := Claim7.holds Tryz.pinned (.plain (OpenSpec.upto wordsFoundSpec)) wordsFoundUptoCard

/-- THE SECOND FORM's CARD OF 'flashlaw1.NumbersMove'. -/
def numbersMoveUptoCard : Claim7 := { stood := { row := numbersMoveUptoRow, standIns := [], harness := (true, "d92488f82dafc2d645f10cdbd01bccb13d7ea1cd16a644bf553257bed8767e16"), looks := true }, kinds := [], alts := [], laidByText := true, laidKinds := [.data, .data, .data, .data, .sentinel, .sentinel, .pinned], laidTests := true, laidLooks := .later }
def NumbersMoveUptoCardSaid : Prop := Claim7.holds Tryz.pinned (.plain (OpenSpec.upto numbersMoveSpec)) numbersMoveUptoCard

/-- THE SECOND FORM's CARD OF 'flashkeep2.PresenceTells'. -/
def presenceTellsUptoCard : Claim7 := { stood := { row := presenceTellsUptoRow, standIns := [], harness := (true, "d92488f82dafc2d645f10cdbd01bccb13d7ea1cd16a644bf553257bed8767e16"), looks := true }, kinds := [], alts := [], laidByText := true, laidKinds := [.data, .data, .pinned], laidTests := true, laidLooks := .later }
def PresenceTellsUptoCardSaid : Prop := Claim7.holds Tryz.pinned (.plain (OpenSpec.upto presenceTellsSpec)) presenceTellsUptoCard
end Rows
end Go.Proofs.YtnpbglnfnhejiaaGreatDoor
