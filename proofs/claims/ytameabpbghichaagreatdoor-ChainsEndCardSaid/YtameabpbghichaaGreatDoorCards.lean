/-
  DERIVED. GIVEN WITH THE SEED: THE CARDS: each row of YtameabpbghichaaGreatDoorRows.lean that lists a variable, with what it lists TIED to the program's text (the seventh form; the later family's looks); each row that meets fmt, with fmt's text TOLD by the authors' own Lean function (tested against real Go, not proved from fmt's source: count such statements apart). THE CARD IS WHAT COUNTS. Prove the row's statement (the work); the ties are given (YtameabpbghichaaGreatDoorTie.lean); close each card by the builder's one call (the guide's Derived/Test/ToyasCard.lean, 'card_holds'). Laid BY PROGRAM, IN A SANDBOX (cutbox-door.mjs). By AI agents, Wed Nov 11 2026. No macro, syntax, notation, axiom, sorry.
-/
import Derived.Test.YtameabpbghichaaGreatDoorRows
import GoSem.ClaimSeven
namespace Go.Proofs.YtameabpbghichaaGreatDoor
namespace Rows

/-- THE TIED CARD OF 'flashlaw1.WordsFound'. -/
def wordsFoundCard : Claim7 := { stood := { row := wordsFoundRow, standIns := [], harness := (true, "b2c82c076fe7f20cc34d60011026ce112518eaf290938270e00118fddfd8c241"), looks := true }, kinds := [], alts := [], laidByText := true, laidKinds := [.data, .data, .data, .data, .sentinel, .sentinel, .pinned], laidTests := true, laidLooks := .later }
def WordsFoundCardSaid : Prop := Claim7.holds Tryz.pinned (.plain (OpenSpec.ofChange wordsFoundSpec)) wordsFoundCard

/-- THE TIED CARD OF 'flashkeep2.ChainsEnd'. -/
def chainsEndCard : Claim7 := { stood := { row := chainsEndRow, standIns := [], harness := (true, "b2c82c076fe7f20cc34d60011026ce112518eaf290938270e00118fddfd8c241"), looks := true }, kinds := [], alts := [], laidByText := true, laidKinds := [.data, .data, .pinned], laidTests := true, laidLooks := .later }
def ChainsEndCardSaid : Prop := Claim7.holds Tryz.pinned (.plain (OpenSpec.ofChange chainsEndSpec)) chainsEndCard

/-- THE TIED CARD OF 'flashkeep2.DialplansStay'. -/
def dialplansStayCard : Claim7 := { stood := { row := dialplansStayRow, standIns := [], harness := (true, "b2c82c076fe7f20cc34d60011026ce112518eaf290938270e00118fddfd8c241"), looks := true }, kinds := [], alts := [], laidByText := true, laidKinds := [.data, .data, .pinned], laidTests := true, laidLooks := .later }
def DialplansStayCardSaid : Prop := Claim7.holds Tryz.pinned (.plain (OpenSpec.ofChange dialplansStaySpec)) dialplansStayCard

/-- THE SECOND FORM's CARD OF 'flashlaw1.WordsFound'. -/
def wordsFoundUptoCard : Claim7 := { stood := { row := wordsFoundUptoRow, standIns := [], harness := (true, "b2c82c076fe7f20cc34d60011026ce112518eaf290938270e00118fddfd8c241"), looks := true }, kinds := [], alts := [], laidByText := true, laidKinds := [.data, .data, .data, .data, .sentinel, .sentinel, .pinned], laidTests := true, laidLooks := .later }
def WordsFoundUptoCardSaid : Prop := Claim7.holds Tryz.pinned (.plain (OpenSpec.upto wordsFoundSpec)) wordsFoundUptoCard

/-- THE SECOND FORM's CARD OF 'flashkeep2.ChainsEnd'. -/
def chainsEndUptoCard : Claim7 := { stood := { row := chainsEndUptoRow, standIns := [], harness := (true, "b2c82c076fe7f20cc34d60011026ce112518eaf290938270e00118fddfd8c241"), looks := true }, kinds := [], alts := [], laidByText := true, laidKinds := [.data, .data, .pinned], laidTests := true, laidLooks := .later }
def ChainsEndUptoCardSaid : Prop := Claim7.holds Tryz.pinned (.plain (OpenSpec.upto chainsEndSpec)) chainsEndUptoCard

/-- THE SECOND FORM's CARD OF 'flashkeep2.DialplansStay'. -/
def dialplansStayUptoCard : Claim7 := { stood := { row := dialplansStayUptoRow, standIns := [], harness := (true, "b2c82c076fe7f20cc34d60011026ce112518eaf290938270e00118fddfd8c241"), looks := true }, kinds := [], alts := [], laidByText := true, laidKinds := [.data, .data, .pinned], laidTests := true, laidLooks := .later }
def DialplansStayUptoCardSaid : Prop := Claim7.holds Tryz.pinned (.plain (OpenSpec.upto dialplansStaySpec)) dialplansStayUptoCard
end Rows
end Go.Proofs.YtameabpbghichaaGreatDoor
