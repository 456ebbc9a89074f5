/-
  DERIVED. GIVEN WITH THE SEED: THE CARDS: each row of YtbokieoaabpjfaaGreatDoorRows.lean that lists a variable, with what it lists TIED to the program's text (the seventh form; the later family's looks); each row that meets fmt, with fmt's text TOLD by the authors' own Lean function (tested against real Go, not proved from fmt's source: count such statements apart). THE CARD IS WHAT COUNTS. Prove the row's statement (the work); the ties are given (YtbokieoaabpjfaaGreatDoorTie.lean); close each card by the builder's one call (the guide's Derived/Test/ToyasCard.lean, 'card_holds'). Laid BY PROGRAM, IN A SANDBOX (cutbox-door.mjs). By AI agents, Wed Nov 11 2026. No macro, syntax, notation, axiom, sorry.
-/
import Derived.Test.YtbokieoaabpjfaaGreatDoorRows
import GoSem.ClaimSeven
namespace Go.Proofs.YtbokieoaabpjfaaGreatDoor
namespace Rows

/-- THE TIED CARD OF 'aquiferlaw19.WholeOnes'. -/
def wholeOnesCard : Claim7 := { stood := { row := wholeOnesRow, standIns := [], harness := (true, "327c6993de592a50ece88ff7b46aa33f7c2f562190107edb06b3299bf85c2c13"), looks := true }, kinds := [], alts := [], laidByText := true, laidKinds := [.data, .data, .data, .sentinel, .sentinel], laidTests := true, laidLooks := .later }
def WholeOnesCardSaid : Prop := Claim7.holds Tryz.pinned (.plain (OpenSpec.ofChange wholeOnesSpec)) wholeOnesCard

/-- THE TIED CARD OF 'aquiferlaw19.WholeChecks'. -/
def wholeChecksCard : Claim7 := { stood := { row := wholeChecksRow, standIns := [], harness := (true, "327c6993de592a50ece88ff7b46aa33f7c2f562190107edb06b3299bf85c2c13"), looks := true }, kinds := [], alts := [], laidByText := true, laidKinds := [.data, .data, .data, .sentinel, .sentinel], laidTests := true, laidLooks := .later }
def WholeChecksCardSaid : Prop := Claim7.holds Tryz.pinned (.plain (OpenSpec.ofChange wholeChecksSpec)) wholeChecksCard

/-- THE TIED CARD OF 'aquiferlaw19.WholeOrders'. -/
def wholeOrdersCard : Claim7 := { stood := { row := wholeOrdersRow, standIns := [], harness := (true, "327c6993de592a50ece88ff7b46aa33f7c2f562190107edb06b3299bf85c2c13"), looks := true }, kinds := [], alts := [], laidByText := true, laidKinds := [.data, .data, .data, .sentinel, .sentinel], laidTests := true, laidLooks := .later }
def WholeOrdersCardSaid : Prop := Claim7.holds Tryz.pinned (.plain (OpenSpec.ofChange wholeOrdersSpec)) wholeOrdersCard

/-- THE TIED CARD OF 'aquiferlaw19.WholeAlone'. -/
def wholeAloneCard : Claim7 := { stood := { row := wholeAloneRow, standIns := [], harness := (true, "327c6993de592a50ece88ff7b46aa33f7c2f562190107edb06b3299bf85c2c13"), looks := true }, kinds := [], alts := [], laidByText := true, laidKinds := [.data, .data, .data, .sentinel, .sentinel], laidTests := true, laidLooks := .later }
def WholeAloneCardSaid : Prop := Claim7.holds Tryz.pinned (.plain (OpenSpec.ofChange wholeAloneSpec)) wholeAloneCard

/-- THE TIED CARD OF 'aquiferlaw19.WholeCircles'. -/
def wholeCirclesCard : Claim7 := { stood := { row := wholeCirclesRow, standIns := [], harness := (true, "327c6993de592a50ece88ff7b46aa33f7c2f562190107edb06b3299bf85c2c13"), looks := true }, kinds := [], alts := [], laidByText := true, laidKinds := [.data, .data, .data, .sentinel, .sentinel], laidTests := true, laidLooks := .later }
def WholeCirclesCardSaid : Prop := Claim7.holds Tryz.pinned (.plain (OpenSpec.ofChange wholeCirclesSpec)) wholeCirclesCard

/-- THE TIED CARD OF 'aquiferlaw19.WholeMissing'. -/
def wholeMissingCard : Claim7 := { stood := { row := wholeMissingRow, standIns := [], harness := (true, "327c6993de592a50ece88ff7b46aa33f7c2f562190107edb06b3299bf85c2c13"), looks := true }, kinds := [], alts := [], laidByText := true, laidKinds := [.data, .data, .data, .sentinel, .sentinel], laidTests := true, laidLooks := .later }
def WholeMissingCardSaid : Prop := Claim7.holds Tryz.pinned (.plain (OpenSpec.ofChange wholeMissingSpec)) wholeMissingCard

/-- THE TIED CARD OF 'aquiferlaw19.WholeNames'. -/
def wholeNamesCard : Claim7 := { stood := { row := wholeNamesRow, standIns := [], harness := (true, "327c6993de592a50ece88ff7b46aa33f7c2f562190107edb06b3299bf85c2c13"), looks := true }, kinds := [], alts := [], laidByText := true, laidKinds := [.data, .data, .data, .sentinel, .sentinel], laidTests := true, laidLooks := .later }
def WholeNamesCardSaid : Prop := Claim7.holds Tryz.pinned (.plain (OpenSpec.ofChange wholeNamesSpec)) wholeNamesCard

/-- THE TIED CARD OF 'aquiferlaw19.WholeMany'. -/
def wholeManyCard : Claim7 := { stood := { row := wholeManyRow, standIns := [], harness := (true, "327c6993de592a50ece88ff7b46aa33f7c2f562190107edb06b3299bf85c2c13"), looks := true }, kinds := [], alts := [], laidByText := true, laidKinds := [.data, .data, .data, .sentinel, .sentinel], laidTests := true, laidLooks := .later }
def WholeManyCardSaid : Prop := Claim7.holds Tryz.pinned (.plain (OpenSpec.ofChange wholeManySpec)) wholeManyCard

/-- THE SECOND FORM's CARD OF 'aquiferlaw19.WholeOnes'. -/
def wholeOnesUptoCard : Claim7 := { stood := { row := wholeOnesUptoRow, standIns := [], harness := (true, "327c6993de592a50ece88ff7b46aa33f7c2f562190107edb06b3299bf85c2c13"), looks := true }, kinds := [], alts := [], laidByText := true, laidKinds := [.data, .data, .data, .sentinel, .sentinel], laidTests := true, laidLooks := .later }
def WholeOnesUptoCardSaid : Prop := Claim7.holds Tryz.pinned (.plain (OpenSpec.upto wholeOnesSpec)) wholeOnesUptoCard

/-- THE SECOND FORM's CARD OF 'aquiferlaw19.WholeChecks'. -/
def wholeChecksUptoCard : Claim7 := { stood := { row := wholeChecksUptoRow, standIns := [], harness := (true, "327c6993de592a50ece88ff7b46aa33f7c2f562190107edb06b3299bf85c2c13"), looks := true }, kinds := [], alts := [], laidByText := true, laidKinds := [.data, .data, .data, .sentinel, .sentinel], laidTests := true, laidLooks := .later }
def WholeChecksUptoCardSaid : Prop := Claim7.holds Tryz.pinned (.plain (OpenSpec.upto wholeChecksSpec)) wholeChecksUptoCard

/-- THE SECOND FORM's CARD OF 'aquiferlaw19.WholeOrders'. -/
def wholeOrdersUptoCard : Claim7 := { stood := { row := wholeOrdersUptoRow, standIns := [], harness := (true, "327c6993de592a50ece88ff7b46aa33f7c2f562190107edb06b3299bf85c2c13"), looks := true }, kinds := [], alts := [], laidByText := true, laidKinds := [.data, .data, .data, .sentinel, .sentinel], laidTests := true, laidLooks := .later }
def WholeOrdersUptoCardSaid : Prop := Claim7.holds Tryz.pinned (.plain (OpenSpec.upto wholeOrdersSpec)) wholeOrdersUptoCard

/-- THE SECOND FORM's CARD OF 'aquiferlaw19.WholeAlone'. -/
def wholeAloneUptoCard : Claim7 := { stood := { row := wholeAloneUptoRow, standIns := [], harness := (true, "327c6993de592a50ece88ff7b46aa33f7c2f562190107edb06b3299bf85c2c13"), looks := true }, kinds := [], alts := [], laidByText := true, laidKinds := [.data, .data, .data, .sentinel, .sentinel], laidTests := true, laidLooks := .later }
def WholeAloneUptoCardSaid : Prop := Claim7.holds Tryz.pinned (.plain (OpenSpec.upto wholeAloneSpec)) wholeAloneUptoCard

/-- THE SECOND FORM's CARD OF 'aquiferlaw19.WholeCircles'. -/
def wholeCirclesUptoCard : Claim7 := { stood := { row := wholeCirclesUptoRow, standIns := [], harness := (true, "327c6993de592a50ece88ff7b46aa33f7c2f562190107edb06b3299bf85c2c13"), looks := true }, kinds := [], alts := [], laidByText := true, laidKinds := [.data, .data, .data, .sentinel, .sentinel], laidTests := true, laidLooks := .later }
def WholeCirclesUptoCardSaid : Prop := Claim7.holds Tryz.pinned (.plain (OpenSpec.upto wholeCirclesSpec)) wholeCirclesUptoCard

/-- THE SECOND FORM's CARD OF 'aquiferlaw19.WholeMissing'. -/
def wholeMissingUptoCard : Claim7 := { stood := { row := wholeMissingUptoRow, standIns := [], harness := (true, "327c6993de592a50ece88ff7b46aa33f7c2f562190107edb06b3299bf85c2c13"), looks := true }, kinds := [], alts := [], laidByText := true, laidKinds := [.data, .data, .data, .sentinel, .sentinel], laidTests := true, laidLooks := .later }
def WholeMissingUptoCardSaid : Prop := Claim7.holds Tryz.pinned (.plain (OpenSpec.upto wholeMissingSpec)) wholeMissingUptoCard

/-- THE SECOND FORM's CARD OF 'aquiferlaw19.WholeNames'. -/
def wholeNamesUptoCard : Claim7 := { stood := { row := wholeNamesUptoRow, standIns := [], harness := (true, "327c6993de592a50ece88ff7b46aa33f7c2f562190107edb06b3299bf85c2c13"), looks := true }, kinds := [], alts := [], laidByText := true, laidKinds := [.data, .data, .data, .sentinel, .sentinel], laidTests := true, laidLooks := .later }
def WholeNamesUptoCardSaid : Prop := Claim7.holds Tryz.pinned (.plain (OpenSpec.upto wholeNamesSpec)) wholeNamesUptoCard

/-- THE SECOND FORM's CARD OF 'aquiferlaw19.WholeMany'. -/
def wholeManyUptoCard : Claim7 := { stood := { row := wholeManyUptoRow, standIns := [], harness := (true, "327c6993de592a50ece88ff7b46aa33f7c2f562190107edb06b3299bf85c2c13"), looks := true }, kinds := [], alts := [], laidByText := true, laidKinds := [.data, .data, .data, .sentinel, .sentinel], laidTests := true, laidLooks := .later }
def WholeManyUptoCardSaid : Prop := Claim7.holds Tryz.pinned (.plain (OpenSpec.upto wholeManySpec)) wholeManyUptoCard
end Rows
end Go.Proofs.YtbokieoaabpjfaaGreatDoor
