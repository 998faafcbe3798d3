/-
  DERIVED. GIVEN WITH THE SEED: THE CARDS: each row of YtoclmbbfdokbhaaGreatDoorRows.lean that lists a variable, with what it lists TIED to the program's text (the seventh form; the later family's looks); each row that meets fmt, with fmt's text TOLD by the authors' own Lean function (tested against real Go, not proved from fmt's source: count such statements apart). THE CARD IS WHAT COUNTS. Prove the row's statement (the work); the ties are given (YtoclmbbfdokbhaaGreatDoorTie.lean); close each card by the builder's one call (the guide's Derived/Test/ToyasCard.lean, 'card_holds'). Laid BY PROGRAM, IN A SANDBOX (cutbox-door.mjs). By AI agents, Wed Nov 11 2026. No macro, syntax, notation, axiom, sorry.
-/
import Derived.Test.YtoclmbbfdokbhaaGreatDoorRows
import GoSem.ClaimSeven
namespace Go.Proofs.YtoclmbbfdokbhaaGreatDoor
namespace Rows

/-- THE TIED CARD OF 'flashkeep2.MediasStay'. -/
def mediasStayCard : Claim7 := { stood := { row := mediasStayRow, standIns := [], harness := (true, "bc476c4829041a1573291a9e9b4020dd8a5659c7616aa5f59c4a358f7774f0e3"), looks := true }, kinds := [], alts := [], laidByText := true, laidKinds := [.data, .data, .pinned], laidTests := true, laidLooks := .later }
def MediasStayCardSaid : Prop := Claim7.holds Tryz.pinned (.plain (OpenSpec.ofChange mediasStaySpec)) mediasStayCard

/-- THE TIED CARD OF 'flashlaw1.FormsRead'. -/
def formsReadCard : Claim7 := { stood := { row := formsReadRow, standIns := [], harness := (true, "bc476c4829041a1573291a9e9b4020dd8a5659c7616aa5f59c4a358f7774f0e3"), looks := true }, kinds := [], alts := [], laidByText := true, laidKinds := [.data, .data, .data, .data, .sentinel, .sentinel, .pinned], laidTests := true, laidLooks := .later }
def FormsReadCardSaid : Prop := Claim7.holds Tryz.pinned (.plain (OpenSpec.ofChange formsReadSpec)) formsReadCard

/-- THE TIED CARD OF 'flashlaw1.DiallingProgresses'. -/
def diallingProgressesCard : Claim7 := { stood := { row := diallingProgressesRow, standIns := [], harness := (true, "bc476c4829041a1573291a9e9b4020dd8a5659c7616aa5f59c4a358f7774f0e3"), looks := true }, kinds := [], alts := [], laidByText := true, laidKinds := [.data, .data, .data, .data, .sentinel, .sentinel, .pinned], laidTests := true, laidLooks := .later }
def DiallingProgressesCardSaid : Prop := Claim7.holds Tryz.pinned (.plain (OpenSpec.ofChange diallingProgressesSpec)) diallingProgressesCard

/-- THE TIED CARD OF 'flashlaw1.NumbersReached'. -/
def numbersReachedCard : Claim7 := { stood := { row := numbersReachedRow, standIns := [], harness := (true, "bc476c4829041a1573291a9e9b4020dd8a5659c7616aa5f59c4a358f7774f0e3"), looks := true }, kinds := [], alts := [], laidByText := true, laidKinds := [.data, .data, .data, .data, .sentinel, .sentinel, .pinned], laidTests := true, laidLooks := .later }
def NumbersReachedCardSaid : Prop := Claim7.holds Tryz.pinned (.plain (OpenSpec.ofChange numbersReachedSpec)) numbersReachedCard

/-- THE TIED CARD OF 'flashlaw1.SlipsMade'. -/
def slipsMadeCard : Claim7 := { stood := { row := slipsMadeRow, standIns := [], harness := (true, "bc476c4829041a1573291a9e9b4020dd8a5659c7616aa5f59c4a358f7774f0e3"), looks := true }, kinds := [], alts := [], laidByText := true, laidKinds := [.data, .data, .data, .data, .sentinel, .sentinel, .pinned], laidTests := true, laidLooks := .later }
def SlipsMadeCardSaid : Prop := Claim7.holds Tryz.pinned (.plain (OpenSpec.ofChange slipsMadeSpec)) slipsMadeCard

/-- THE SECOND FORM's CARD OF 'flashkeep2.MediasStay'. -/
def mediasStayUptoCard : Claim7 := { stood := { row := mediasStayUptoRow, standIns := [], harness := (true, "bc476c4829041a1573291a9e9b4020dd8a5659c7616aa5f59c4a358f7774f0e3"), looks := true }, kinds := [], alts := [], laidByText := true, laidKinds := [.data, .data, .pinned], laidTests := true, laidLooks := .later }
def MediasStayUptoCardSaid : Prop := Claim7.holds Tryz.pinned (.plain (OpenSpec.upto mediasStaySpec)) mediasStayUptoCard

/-- THE SECOND FORM's CARD OF 'flashlaw1.FormsRead'. -/
def formsReadUptoCard : Claim7 := { stood := { row := formsReadUptoRow, standIns := [], harness := (true, "bc476c4829041a1573291a9e9b4020dd8a5659c7616aa5f59c4a358f7774f0e3"), looks := true }, kinds := [], alts := [], laidByText := true, laidKinds := [.data, .data, .data, .data, .sentinel, .sentinel, .pinned], laidTests := true, laidLooks := .later }
def FormsReadUptoCardSaid : Prop := Claim7.holds Tryz.pinned (.plain (OpenSpec.upto formsReadSpec)) formsReadUptoCard

/-- THE SECOND FORM's CARD OF 'flashlaw1.DiallingProgresses'. -/
def diallingProgressesUptoCard : Claim7 := { stood := { row := diallingProgressesUptoRow, standIns := [], harness := (true, "bc476c4829041a1573291a9e9b4020dd8a5659c7616aa5f59c4a358f7774f0e3"), looks := true }, kinds := [], alts := [], laidByText := true, laidKinds := [.data, .data, .data, .data, .sentinel, .sentinel, .pinned], laidTests := true, laidLooks := .later }
def DiallingProgressesUptoCardSaid : Prop := Claim7.holds Tryz.pinned (.plain (OpenSpec.upto diallingProgressesSpec)) diallingProgressesUptoCard

/-- THE SECOND FORM's CARD OF 'flashlaw1.NumbersReached'. -/
def numbersReachedUptoCard : Claim7 := { stood := { row := numbersReachedUptoRow, standIns := [], harness := (true, "bc476c4829041a1573291a9e9b4020dd8a5659c7616aa5f59c4a358f7774f0e3"), looks := true }, kinds := [], alts := [], laidByText := true, laidKinds := [.data, .data, .data, .data, .sentinel, .sentinel, .pinned], laidTests := true, laidLooks := .later }
def NumbersReachedUptoCardSaid : Prop := Claim7.holds Tryz.pinned (.plain (OpenSpec.upto numbersReachedSpec)) numbersReachedUptoCard

/-- THE SECOND FORM's CARD OF 'flashlaw1.SlipsMade'. -/
def slipsMadeUptoCard : Claim7 := { stood := { row := slipsMadeUptoRow, standIns := [], harness := (true, "bc476c4829041a1573291a9e9b4020dd8a5659c7616aa5f59c4a358f7774f0e3"), looks := true }, kinds := [], alts := [], laidByText := true, laidKinds := [.data, .data, .data, .data, .sentinel, .sentinel, .pinned], laidTests := true, laidLooks := .later }
def SlipsMadeUptoCardSaid : Prop := Claim7.holds Tryz.pinned (.plain (OpenSpec.upto slipsMadeSpec)) slipsMadeUptoCard
end Rows
end Go.Proofs.YtoclmbbfdokbhaaGreatDoor
