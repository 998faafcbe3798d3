/-
  DERIVED. GIVEN WITH THE SEED: THE CARDS: each row of YtagbgmkocjfanaaGreatDoorRows.lean that lists a variable, with what it lists TIED to the program's text (the seventh form; the later family's looks); each row that meets fmt, with fmt's text TOLD by the authors' own Lean function (tested against real Go, not proved from fmt's source: count such statements apart). THE CARD IS WHAT COUNTS. Prove the row's statement (the work); the ties are given (YtagbgmkocjfanaaGreatDoorTie.lean); close each card by the builder's one call (the guide's Derived/Test/ToyasCard.lean, 'card_holds'). Laid BY PROGRAM, IN A SANDBOX (cutbox-door.mjs). By AI agents, Wed Nov 11 2026. No macro, syntax, notation, axiom, sorry.
-/
import Derived.Test.YtagbgmkocjfanaaGreatDoorRows
import GoSem.ClaimSeven
namespace Go.Proofs.YtagbgmkocjfanaaGreatDoor
namespace Rows

/-- THE TIED CARD OF 'flashkeep2.EachSecondOnce'. -/
def eachSecondOnceCard : Claim7 := { stood := { row := eachSecondOnceRow, standIns := [], harness := (true, "f5eabbae4fafb67e758117b575429cbbff3f50da45380419c2e02de7db48923d"), looks := false }, kinds := [], alts := [], laidByText := true, laidKinds := [.data, .data, .pinned], laidTests := true, laidLooks := .later }
def EachSecondOnceCardSaid : Prop := Claim7.holds Tryz.pinned (.plain (OpenSpec.ofChange eachSecondOnceSpec)) eachSecondOnceCard

/-- THE TIED CARD OF 'flashkeep2.BlocksStop'. -/
def blocksStopCard : Claim7 := { stood := { row := blocksStopRow, standIns := [], harness := (true, "f5eabbae4fafb67e758117b575429cbbff3f50da45380419c2e02de7db48923d"), looks := false }, kinds := [], alts := [], laidByText := true, laidKinds := [.data, .data, .pinned], laidTests := true, laidLooks := .later }
def BlocksStopCardSaid : Prop := Claim7.holds Tryz.pinned (.plain (OpenSpec.ofChange blocksStopSpec)) blocksStopCard

/-- THE TIED CARD OF 'flashkeep2.WaitsAreTrue'. -/
def waitsAreTrueCard : Claim7 := { stood := { row := waitsAreTrueRow, standIns := [], harness := (true, "f5eabbae4fafb67e758117b575429cbbff3f50da45380419c2e02de7db48923d"), looks := false }, kinds := [], alts := [], laidByText := true, laidKinds := [.data, .data, .pinned], laidTests := true, laidLooks := .later }
def WaitsAreTrueCardSaid : Prop := Claim7.holds Tryz.pinned (.plain (OpenSpec.ofChange waitsAreTrueSpec)) waitsAreTrueCard

/-- THE TIED CARD OF 'flashtop.TopKeysDialled'. -/
def topKeysDialledCard : Claim7 := { stood := { row := topKeysDialledRow, standIns := [], harness := (true, "f5eabbae4fafb67e758117b575429cbbff3f50da45380419c2e02de7db48923d"), looks := false }, kinds := [], alts := [], laidByText := true, laidKinds := [.data, .data, .pinned], laidTests := true, laidLooks := .later }
def TopKeysDialledCardSaid : Prop := Claim7.holds Tryz.pinned (.plain (OpenSpec.ofChange topKeysDialledSpec)) topKeysDialledCard

/-- THE TIED CARD OF 'flashkeep2.HiddenNeverDecide'. -/
def hiddenNeverDecideCard : Claim7 := { stood := { row := hiddenNeverDecideRow, standIns := [], harness := (true, "f5eabbae4fafb67e758117b575429cbbff3f50da45380419c2e02de7db48923d"), looks := false }, kinds := [], alts := [], laidByText := true, laidKinds := [.data, .data, .pinned], laidTests := true, laidLooks := .later }
def HiddenNeverDecideCardSaid : Prop := Claim7.holds Tryz.pinned (.plain (OpenSpec.ofChange hiddenNeverDecideSpec)) hiddenNeverDecideCard

/-- THE TIED CARD OF 'flashkeep2.ChainsEnd'. -/
def chainsEndCard : Claim7 := { stood := { row := chainsEndRow, standIns := [], harness := (true, "f5eabbae4fafb67e758117b575429cbbff3f50da45380419c2e02de7db48923d"), looks := false }, kinds := [], alts := [], laidByText := true, laidKinds := [.data, .data, .pinned], laidTests := true, laidLooks := .later }
def ChainsEndCardSaid : Prop := Claim7.holds Tryz.pinned (.plain (OpenSpec.ofChange chainsEndSpec)) chainsEndCard

/-- THE SECOND FORM's CARD OF 'flashkeep2.EachSecondOnce'. -/
def eachSecondOnceUptoCard : Claim7 := { stood := { row := eachSecondOnceUptoRow, standIns := [], harness := (true, "f5eabbae4fafb67e758117b575429cbbff3f50da45380419c2e02de7db48923d"), looks := false }, kinds := [], alts := [], laidByText := true, laidKinds := [.data, .data, .pinned], laidTests := true, laidLooks := .later }
def EachSecondOnceUptoCardSaid : Prop := Claim7.holds Tryz.pinned (.plain (OpenSpec.upto eachSecondOnceSpec)) eachSecondOnceUptoCard

/-- THE SECOND FORM's CARD OF 'flashkeep2.BlocksStop'. -/
def blocksStopUptoCard : Claim7 := { stood := { row := blocksStopUptoRow, standIns := [], harness := (true, "f5eabbae4fafb67e758117b575429cbbff3f50da45380419c2e02de7db48923d"), looks := false }, kinds := [], alts := [], laidByText := true, laidKinds := [.data, .data, .pinned], laidTests := true, laidLooks := .later }
def BlocksStopUptoCardSaid : Prop := Claim7.holds Tryz.pinned (.plain (OpenSpec.upto blocksStopSpec)) blocksStopUptoCard

/-- THE SECOND FORM's CARD OF 'flashkeep2.WaitsAreTrue'. -/
def waitsAreTrueUptoCard : Claim7 := { stood := { row := waitsAreTrueUptoRow, standIns := [], harness := (true, "f5eabbae4fafb67e758117b575429cbbff3f50da45380419c2e02de7db48923d"), looks := false }, kinds := [], alts := [], laidByText := true, laidKinds := [.data, .data, .pinned], laidTests := true, laidLooks := .later }
def WaitsAreTrueUptoCardSaid : Prop := Claim7.holds Tryz.pinned (.plain (OpenSpec.upto waitsAreTrueSpec)) waitsAreTrueUptoCard

/-- THE SECOND FORM's CARD OF 'flashtop.TopKeysDialled'. -/
def topKeysDialledUptoCard : Claim7 := { stood := { row := topKeysDialledUptoRow, standIns := [], harness := (true, "f5eabbae4fafb67e758117b575429cbbff3f50da45380419c2e02de7db48923d"), looks := false }, kinds := [], alts := [], laidByText := true, laidKinds := [.data, .data, .pinned], laidTests := true, laidLooks := .later }
def TopKeysDialledUptoCardSaid : Prop := Claim7.holds Tryz.pinned (.plain (OpenSpec.upto topKeysDialledSpec)) topKeysDialledUptoCard

/-- THE SECOND FORM's CARD OF 'flashkeep2.HiddenNeverDecide'. -/
def hiddenNeverDecideUptoCard : Claim7 := { stood := { row := hiddenNeverDecideUptoRow, standIns := [], harness := (true, "f5eabbae4fafb67e758117b575429cbbff3f50da45380419c2e02de7db48923d"), looks := false }, kinds := [], alts := [], laidByText := true, laidKinds := [.data, .data, .pinned], laidTests := true, laidLooks := .later }
def HiddenNeverDecideUptoCardSaid : Prop := Claim7.holds Tryz.pinned (.plain (OpenSpec.upto hiddenNeverDecideSpec)) hiddenNeverDecideUptoCard

/-- THE SECOND FORM's CARD OF 'flashkeep2.ChainsEnd'. -/
def chainsEndUptoCard : Claim7 := { stood := { row := chainsEndUptoRow, standIns := [], harness := (true, "f5eabbae4fafb67e758117b575429cbbff3f50da45380419c2e02de7db48923d"), looks := false }, kinds := [], alts := [], laidByText := true, laidKinds := [.data, .data, .pinned], laidTests := true, laidLooks := .later }
def ChainsEndUptoCardSaid : Prop := Claim7.holds Tryz.pinned (.plain (OpenSpec.upto chainsEndSpec)) chainsEndUptoCard
end Rows
end Go.Proofs.YtagbgmkocjfanaaGreatDoor
