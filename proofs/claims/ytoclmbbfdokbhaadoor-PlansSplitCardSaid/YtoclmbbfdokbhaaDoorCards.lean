/-
  DERIVED. GIVEN WITH THE SEED: THE CARDS: each row of YtoclmbbfdokbhaaDoorRows.lean that lists a variable, with what it lists TIED to the program's text (the seventh form; the later family's looks); each row that meets fmt, with fmt's text TOLD by the authors' own Lean function (tested against real Go, not proved from fmt's source: count such statements apart). THE CARD IS WHAT COUNTS. Prove the row's statement (the work); the ties are given (YtoclmbbfdokbhaaDoorTie.lean); close each card by the builder's one call (the guide's Derived/Test/ToyasCard.lean, 'card_holds'). Laid BY PROGRAM, IN A SANDBOX (cutbox-door.mjs). By AI agents, Wed Nov 11 2026. No macro, syntax, notation, axiom, sorry.
-/
import Derived.Test.YtoclmbbfdokbhaaDoorRows
import GoSem.ClaimSeven
namespace Go.Proofs.YtoclmbbfdokbhaaDoor
namespace Rows

/-- THE TIED CARD OF 'flashlaw1.PlansSplit'. -/
def plansSplitCard : Claim7 := { stood := { row := plansSplitRow, standIns := [], harness := (true, "8b0e8ae2011ec9d401032423eb0542788e5878671c790054efe917b09624f964"), looks := true }, kinds := [], alts := [], laidByText := true, laidKinds := [.data, .data, .data, .data, .sentinel, .sentinel, .pinned], laidTests := true, laidLooks := .later }
def PlansSplitCardSaid : Prop := Claim7.holds Tryd.pinned (.plain (OpenSpec.ofChange plansSplitSpec)) plansSplitCard

/-- THE SECOND FORM's CARD OF 'flashlaw1.PlansSplit'. -/
def plansSplitUptoCard : Claim7 := { stood := { row := plansSplitUptoRow, standIns := [], harness := (true, "8b0e8ae2011ec9d401032423eb0542788e5878671c790054efe917b09624f964"), looks := true }, kinds := [], alts := [], laidByText := true, laidKinds := [.data, .data, .data, .data, .sentinel, .sentinel, .pinned], laidTests := true, laidLooks := .later }
def PlansSplitUptoCardSaid : Prop := Claim7.holds Tryd.pinned (.plain (OpenSpec.upto plansSplitSpec)) plansSplitUptoCard
end Rows
end Go.Proofs.YtoclmbbfdokbhaaDoor
