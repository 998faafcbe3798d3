/-
  DERIVED. GIVEN WITH THE SEED: THE CARDS: each row of YtcbepglkfglclaaDoorRows.lean that lists a variable, with what it lists TIED to the program's text (the seventh form; the later family's looks); each row that meets fmt, with fmt's text TOLD by the authors' own Lean function (tested against real Go, not proved from fmt's source: count such statements apart). THE CARD IS WHAT COUNTS. Prove the row's statement (the work); the ties are given (YtcbepglkfglclaaDoorTie.lean); close each card by the builder's one call (the guide's Derived/Test/ToyasCard.lean, 'card_holds'). Laid BY PROGRAM, IN A SANDBOX (cutbox-door.mjs). By AI agents, Wed Nov 11 2026. No macro, syntax, notation, axiom, sorry.
-/
import Derived.Test.YtcbepglkfglclaaDoorRows
import GoSem.ClaimSeven
namespace Go.Proofs.YtcbepglkfglclaaDoor
namespace Rows

/-- THE TIED CARD OF 'flashkeep2.PricesGrow'. -/
def pricesGrowCard : Claim7 := { stood := { row := pricesGrowRow, standIns := [], harness := (true, "9b6e449899240c78f4f22aaba087a0967bae3fdbe58c72fff1e6fc60f6c97570"), looks := true }, kinds := [], alts := [], laidByText := true, laidKinds := [.data, .data, .pinned], laidTests := true, laidLooks := .later }
def PricesGrowCardSaid : Prop := Claim7.holds Tryd.pinned (.plain (OpenSpec.ofChange pricesGrowSpec)) pricesGrowCard

/-- THE TIED CARD OF 'flashkeep2.PacketsComeBack'. -/
def packetsComeBackCard : Claim7 := { stood := { row := packetsComeBackRow, standIns := [], harness := (true, "9b6e449899240c78f4f22aaba087a0967bae3fdbe58c72fff1e6fc60f6c97570"), looks := true }, kinds := [], alts := [], laidByText := true, laidKinds := [.data, .data, .pinned], laidTests := true, laidLooks := .later }
def PacketsComeBackCardSaid : Prop := Claim7.holds Tryd.pinned (.plain (OpenSpec.ofChange packetsComeBackSpec)) packetsComeBackCard

/-- THE TIED CARD OF 'flashkeep2.SoundsComeBack'. -/
def soundsComeBackCard : Claim7 := { stood := { row := soundsComeBackRow, standIns := [], harness := (true, "9b6e449899240c78f4f22aaba087a0967bae3fdbe58c72fff1e6fc60f6c97570"), looks := true }, kinds := [], alts := [], laidByText := true, laidKinds := [.data, .data, .pinned], laidTests := true, laidLooks := .later }
def SoundsComeBackCardSaid : Prop := Claim7.holds Tryd.pinned (.plain (OpenSpec.ofChange soundsComeBackSpec)) soundsComeBackCard

/-- THE TIED CARD OF 'flashkeep2.MixesAddUp'. -/
def mixesAddUpCard : Claim7 := { stood := { row := mixesAddUpRow, standIns := [], harness := (true, "9b6e449899240c78f4f22aaba087a0967bae3fdbe58c72fff1e6fc60f6c97570"), looks := true }, kinds := [], alts := [], laidByText := true, laidKinds := [.data, .data, .pinned], laidTests := true, laidLooks := .later }
def MixesAddUpCardSaid : Prop := Claim7.holds Tryd.pinned (.plain (OpenSpec.ofChange mixesAddUpSpec)) mixesAddUpCard

/-- THE TIED CARD OF 'flashkeep2.KeysAreHeard'. -/
def keysAreHeardCard : Claim7 := { stood := { row := keysAreHeardRow, standIns := [], harness := (true, "9b6e449899240c78f4f22aaba087a0967bae3fdbe58c72fff1e6fc60f6c97570"), looks := true }, kinds := [], alts := [], laidByText := true, laidKinds := [.data, .data, .pinned], laidTests := true, laidLooks := .later }
def KeysAreHeardCardSaid : Prop := Claim7.holds Tryd.pinned (.plain (OpenSpec.ofChange keysAreHeardSpec)) keysAreHeardCard

/-- THE TIED CARD OF 'flashkeep2.WholeSoundsArePlayed'. -/
def wholeSoundsArePlayedCard : Claim7 := { stood := { row := wholeSoundsArePlayedRow, standIns := [], harness := (true, "9b6e449899240c78f4f22aaba087a0967bae3fdbe58c72fff1e6fc60f6c97570"), looks := true }, kinds := [], alts := [], laidByText := true, laidKinds := [.data, .data, .pinned], laidTests := true, laidLooks := .later }
def WholeSoundsArePlayedCardSaid : Prop := Claim7.holds Tryd.pinned (.plain (OpenSpec.ofChange wholeSoundsArePlayedSpec)) wholeSoundsArePlayedCard

/-- THE TIED CARD OF 'flashkeep2.PacketsAreCounted'. -/
def packetsAreCountedCard : Claim7 := { stood := { row := packetsAreCountedRow, standIns := [], harness := (true, "9b6e449899240c78f4f22aaba087a0967bae3fdbe58c72fff1e6fc60f6c97570"), looks := true }, kinds := [], alts := [], laidByText := true, laidKinds := [.data, .data, .pinned], laidTests := true, laidLooks := .later }
def PacketsAreCountedCardSaid : Prop := Claim7.holds Tryd.pinned (.plain (OpenSpec.ofChange packetsAreCountedSpec)) packetsAreCountedCard

/-- THE TIED CARD OF 'flashkeep2.PatternsOrdered'. -/
def patternsOrderedCard : Claim7 := { stood := { row := patternsOrderedRow, standIns := [], harness := (true, "9b6e449899240c78f4f22aaba087a0967bae3fdbe58c72fff1e6fc60f6c97570"), looks := true }, kinds := [], alts := [], laidByText := true, laidKinds := [.data, .data, .pinned], laidTests := true, laidLooks := .later }
def PatternsOrderedCardSaid : Prop := Claim7.holds Tryd.pinned (.plain (OpenSpec.ofChange patternsOrderedSpec)) patternsOrderedCard

/-- THE TIED CARD OF 'flashkeep2.HoursTurn'. -/
def hoursTurnCard : Claim7 := { stood := { row := hoursTurnRow, standIns := [], harness := (true, "9b6e449899240c78f4f22aaba087a0967bae3fdbe58c72fff1e6fc60f6c97570"), looks := true }, kinds := [], alts := [], laidByText := true, laidKinds := [.data, .data, .pinned], laidTests := true, laidLooks := .later }
def HoursTurnCardSaid : Prop := Claim7.holds Tryd.pinned (.plain (OpenSpec.ofChange hoursTurnSpec)) hoursTurnCard

/-- THE TIED CARD OF 'flashlaw1.PlansSplit'. -/
def plansSplitCard : Claim7 := { stood := { row := plansSplitRow, standIns := [], harness := (true, "9b6e449899240c78f4f22aaba087a0967bae3fdbe58c72fff1e6fc60f6c97570"), looks := true }, kinds := [], alts := [], laidByText := true, laidKinds := [.data, .data, .data, .data, .sentinel, .sentinel, .pinned], laidTests := true, laidLooks := .later }
def PlansSplitCardSaid : Prop := Claim7.holds Tryd.pinned (.plain (OpenSpec.ofChange plansSplitSpec)) plansSplitCard

/-- THE SECOND FORM's CARD OF 'flashkeep2.PricesGrow'. -/
def pricesGrowUptoCard : Claim7 := { stood := { row := pricesGrowUptoRow, standIns := [], harness := (true, "9b6e449899240c78f4f22aaba087a0967bae3fdbe58c72fff1e6fc60f6c97570"), looks := true }, kinds := [], alts := [], laidByText := true, laidKinds := [.data, .data, .pinned], laidTests := true, laidLooks := .later }
def PricesGrowUptoCardSaid : Prop := Claim7.holds Tryd.pinned (.plain (OpenSpec.upto pricesGrowSpec)) pricesGrowUptoCard

/-- THE SECOND FORM's CARD OF 'flashkeep2.PacketsComeBack'. -/
def packetsComeBackUptoCard : Claim7 := { stood := { row := packetsComeBackUptoRow, standIns := [], harness := (true, "9b6e449899240c78f4f22aaba087a0967bae3fdbe58c72fff1e6fc60f6c97570"), looks := true }, kinds := [], alts := [], laidByText := true, laidKinds := [.data, .data, .pinned], laidTests := true, laidLooks := .later }
def PacketsComeBackUptoCardSaid : Prop := Claim7.holds Tryd.pinned (.plain (OpenSpec.upto packetsComeBackSpec)) packetsComeBackUptoCard

/-- THE SECOND FORM's CARD OF 'flashkeep2.SoundsComeBack'. -/
def soundsComeBackUptoCard : Claim7 := { stood := { row := soundsComeBackUptoRow, standIns := [], harness := (true, "9b6e449899240c78f4f22aaba087a0967bae3fdbe58c72fff1e6fc60f6c97570"), looks := true }, kinds := [], alts := [], laidByText := true, laidKinds := [.data, .data, .pinned], laidTests := true, laidLooks := .later }
def SoundsComeBackUptoCardSaid : Prop := Claim7.holds Tryd.pinned (.plain (OpenSpec.upto soundsComeBackSpec)) soundsComeBackUptoCard

/-- THE SECOND FORM's CARD OF 'flashkeep2.MixesAddUp'. -/
def mixesAddUpUptoCard : Claim7 := { stood := { row := mixesAddUpUptoRow, standIns := [], harness := (true, "9b6e449899240c78f4f22aaba087a0967bae3fdbe58c72fff1e6fc60f6c97570"), looks := true }, kinds := [], alts := [], laidByText := true, laidKinds := [.data, .data, .pinned], laidTests := true, laidLooks := .later }
def MixesAddUpUptoCardSaid : Prop := Claim7.holds Tryd.pinned (.plain (OpenSpec.upto mixesAddUpSpec)) mixesAddUpUptoCard

/-- THE SECOND FORM's CARD OF 'flashkeep2.KeysAreHeard'. -/
def keysAreHeardUptoCard : Claim7 := { stood := { row := keysAreHeardUptoRow, standIns := [], harness := (true, "9b6e449899240c78f4f22aaba087a0967bae3fdbe58c72fff1e6fc60f6c97570"), looks := true }, kinds := [], alts := [], laidByText := true, laidKinds := [.data, .data, .pinned], laidTests := true, laidLooks := .later }
def KeysAreHeardUptoCardSaid : Prop := Claim7.holds Tryd.pinned (.plain (OpenSpec.upto keysAreHeardSpec)) keysAreHeardUptoCard

/-- THE SECOND FORM's CARD OF 'flashkeep2.WholeSoundsArePlayed'. -/
def wholeSoundsArePlayedUptoCard : Claim7 := { stood := { row := wholeSoundsArePlayedUptoRow, standIns := [], harness := (true, "9b6e449899240c78f4f22aaba087a0967bae3fdbe58c72fff1e6fc60f6c97570"), looks := true }, kinds := [], alts := [], laidByText := true, laidKinds := [.data, .data, .pinned], laidTests := true, laidLooks := .later }
def WholeSoundsArePlayedUptoCardSaid : Prop := Claim7.holds Tryd.pinned (.plain (OpenSpec.upto wholeSoundsArePlayedSpec)) wholeSoundsArePlayedUptoCard

/-- THE SECOND FORM's CARD OF 'flashkeep2.PacketsAreCounted'. -/
def packetsAreCountedUptoCard : Claim7 := { stood := { row := packetsAreCountedUptoRow, standIns := [], harness := (true, "9b6e449899240c78f4f22aaba087a0967bae3fdbe58c72fff1e6fc60f6c97570"), looks := true }, kinds := [], alts := [], laidByText := true, laidKinds := [.data, .data, .pinned], laidTests := true, laidLooks := .later }
def PacketsAreCountedUptoCardSaid : Prop := Claim7.holds Tryd.pinned (.plain (OpenSpec.upto packetsAreCountedSpec)) packetsAreCountedUptoCard

/-- THE SECOND FORM's CARD OF 'flashkeep2.PatternsOrdered'. -/
def patternsOrderedUptoCard : Claim7 := { stood := { row := patternsOrderedUptoRow, standIns := [], harness := (true, "9b6e449899240c78f4f22aaba087a0967bae3fdbe58c72fff1e6fc60f6c97570"), looks := true }, kinds := [], alts := [], laidByText := true, laidKinds := [.data, .data, .pinned], laidTests := true, laidLooks := .later }
def PatternsOrderedUptoCardSaid : Prop := Claim7.holds Tryd.pinned (.plain (OpenSpec.upto patternsOrderedSpec)) patternsOrderedUptoCard

/-- THE SECOND FORM's CARD OF 'flashkeep2.HoursTurn'. -/
def hoursTurnUptoCard : Claim7 := { stood := { row := hoursTurnUptoRow, standIns := [], harness := (true, "9b6e449899240c78f4f22aaba087a0967bae3fdbe58c72fff1e6fc60f6c97570"), looks := true }, kinds := [], alts := [], laidByText := true, laidKinds := [.data, .data, .pinned], laidTests := true, laidLooks := .later }
def HoursTurnUptoCardSaid : Prop := Claim7.holds Tryd.pinned (.plain (OpenSpec.upto hoursTurnSpec)) hoursTurnUptoCard

/-- THE SECOND FORM's CARD OF 'flashlaw1.PlansSplit'. -/
def plansSplitUptoCard : Claim7 := { stood := { row := plansSplitUptoRow, standIns := [], harness := (true, "9b6e449899240c78f4f22aaba087a0967bae3fdbe58c72fff1e6fc60f6c97570"), looks := true }, kinds := [], alts := [], laidByText := true, laidKinds := [.data, .data, .data, .data, .sentinel, .sentinel, .pinned], laidTests := true, laidLooks := .later }
def PlansSplitUptoCardSaid : Prop := Claim7.holds Tryd.pinned (.plain (OpenSpec.upto plansSplitSpec)) plansSplitUptoCard
end Rows
end Go.Proofs.YtcbepglkfglclaaDoor
