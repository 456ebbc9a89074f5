/-
  DERIVED. GIVEN WITH THE SEED: THE CARDS: each row of YtfolmdfljpkpeaaGreatDoorRows.lean that lists a variable, with what it lists TIED to the program's text (the seventh form; the later family's looks); each row that meets fmt, with fmt's text TOLD by the authors' own Lean function (tested against real Go, not proved from fmt's source: count such statements apart). THE CARD IS WHAT COUNTS. Prove the row's statement (the work); the ties are given (YtfolmdfljpkpeaaGreatDoorTie.lean); close each card by the builder's one call (the guide's Derived/Test/ToyasCard.lean, 'card_holds'). Laid BY PROGRAM, IN A SANDBOX (cutbox-door.mjs). By AI agents, Wed Nov 11 2026. No macro, syntax, notation, axiom, sorry.
-/
import Derived.Test.YtfolmdfljpkpeaaGreatDoorRows
import GoSem.ClaimSeven
namespace Go.Proofs.YtfolmdfljpkpeaaGreatDoor
namespace Rows

/-- THE TIED CARD OF 'aquiferlaw16.FlowChecks'. -/
def flowChecksCard : Claim7 := { stood := { row := flowChecksRow, standIns := [], harness := (true, "b6cee863da8cb848848a116177670bf7af97aa870adbca4bd310ec42c70d3842"), looks := false }, kinds := [], alts := [], laidByText := true, laidKinds := [.data, .data, .data], laidTests := true, laidLooks := .later }
def FlowChecksCardSaid : Prop := Claim7.holds Tryz.pinned (.plain (OpenSpec.ofChange flowChecksSpec)) flowChecksCard

/-- THE TIED CARD OF 'aquiferlaw16.FlowHides'. -/
def flowHidesCard : Claim7 := { stood := { row := flowHidesRow, standIns := [], harness := (true, "b6cee863da8cb848848a116177670bf7af97aa870adbca4bd310ec42c70d3842"), looks := false }, kinds := [], alts := [], laidByText := true, laidKinds := [.data, .data, .data], laidTests := true, laidLooks := .later }
def FlowHidesCardSaid : Prop := Claim7.holds Tryz.pinned (.plain (OpenSpec.ofChange flowHidesSpec)) flowHidesCard

/-- THE TIED CARD OF 'aquiferlaw16.FlowPairs'. -/
def flowPairsCard : Claim7 := { stood := { row := flowPairsRow, standIns := [], harness := (true, "b6cee863da8cb848848a116177670bf7af97aa870adbca4bd310ec42c70d3842"), looks := false }, kinds := [], alts := [], laidByText := true, laidKinds := [.data, .data, .data], laidTests := true, laidLooks := .later }
def FlowPairsCardSaid : Prop := Claim7.holds Tryz.pinned (.plain (OpenSpec.ofChange flowPairsSpec)) flowPairsCard

/-- THE TIED CARD OF 'aquiferlaw16.FlowEffects'. -/
def flowEffectsCard : Claim7 := { stood := { row := flowEffectsRow, standIns := [], harness := (true, "b6cee863da8cb848848a116177670bf7af97aa870adbca4bd310ec42c70d3842"), looks := false }, kinds := [], alts := [], laidByText := true, laidKinds := [.data, .data, .data], laidTests := true, laidLooks := .later }
def FlowEffectsCardSaid : Prop := Claim7.holds Tryz.pinned (.plain (OpenSpec.ofChange flowEffectsSpec)) flowEffectsCard

/-- THE TIED CARD OF 'aquiferlaw16.FlowScopes'. -/
def flowScopesCard : Claim7 := { stood := { row := flowScopesRow, standIns := [], harness := (true, "b6cee863da8cb848848a116177670bf7af97aa870adbca4bd310ec42c70d3842"), looks := false }, kinds := [], alts := [], laidByText := true, laidKinds := [.data, .data, .data], laidTests := true, laidLooks := .later }
def FlowScopesCardSaid : Prop := Claim7.holds Tryz.pinned (.plain (OpenSpec.ofChange flowScopesSpec)) flowScopesCard

/-- THE TIED CARD OF 'aquiferlaw16.FlowRows'. -/
def flowRowsCard : Claim7 := { stood := { row := flowRowsRow, standIns := [], harness := (true, "b6cee863da8cb848848a116177670bf7af97aa870adbca4bd310ec42c70d3842"), looks := false }, kinds := [], alts := [], laidByText := true, laidKinds := [.data, .data, .data], laidTests := true, laidLooks := .later }
def FlowRowsCardSaid : Prop := Claim7.holds Tryz.pinned (.plain (OpenSpec.ofChange flowRowsSpec)) flowRowsCard

/-- THE TIED CARD OF 'aquiferlaw16.FlowRaised'. -/
def flowRaisedCard : Claim7 := { stood := { row := flowRaisedRow, standIns := [], harness := (true, "b6cee863da8cb848848a116177670bf7af97aa870adbca4bd310ec42c70d3842"), looks := false }, kinds := [], alts := [], laidByText := true, laidKinds := [.data, .data, .data], laidTests := true, laidLooks := .later }
def FlowRaisedCardSaid : Prop := Claim7.holds Tryz.pinned (.plain (OpenSpec.ofChange flowRaisedSpec)) flowRaisedCard

/-- THE SECOND FORM's CARD OF 'aquiferlaw16.FlowChecks'. -/
def flowChecksUptoCard : Claim7 := { stood := { row := flowChecksUptoRow, standIns := [], harness := (true, "b6cee863da8cb848848a116177670bf7af97aa870adbca4bd310ec42c70d3842"), looks := false }, kinds := [], alts := [], laidByText := true, laidKinds := [.data, .data, .data], laidTests := true, laidLooks := .later }
def FlowChecksUptoCardSaid : Prop := Claim7.holds Tryz.pinned (.plain (OpenSpec.upto flowChecksSpec)) flowChecksUptoCard

/-- THE SECOND FORM's CARD OF 'aquiferlaw16.FlowHides'. -/
def flowHidesUptoCard : Claim7 := { stood := { row := flowHidesUptoRow, standIns := [], harness := (true, "b6cee863da8cb848848a116177670bf7af97aa870adbca4bd310ec42c70d3842"), looks := false }, kinds := [], alts := [], laidByText := true, laidKinds := [.data, .data, .data], laidTests := true, laidLooks := .later }
def FlowHidesUptoCardSaid : Prop := Claim7.holds Tryz.pinned (.plain (OpenSpec.upto flowHidesSpec)) flowHidesUptoCard

/-- THE SECOND FORM's CARD OF 'aquiferlaw16.FlowPairs'. -/
def flowPairsUptoCard : Claim7 := { stood := { row := flowPairsUptoRow, standIns := [], harness := (true, "b6cee863da8cb848848a116177670bf7af97aa870adbca4bd310ec42c70d3842"), looks := false }, kinds := [], alts := [], laidByText := true, laidKinds := [.data, .data, .data], laidTests := true, laidLooks := .later }
def FlowPairsUptoCardSaid : Prop := Claim7.holds Tryz.pinned (.plain (OpenSpec.upto flowPairsSpec)) flowPairsUptoCard

/-- THE SECOND FORM's CARD OF 'aquiferlaw16.FlowEffects'. -/
def flowEffectsUptoCard : Claim7 := { stood := { row := flowEffectsUptoRow, standIns := [], harness := (true, "b6cee863da8cb848848a116177670bf7af97aa870adbca4bd310ec42c70d3842"), looks := false }, kinds := [], alts := [], laidByText := true, laidKinds := [.data, .data, .data], laidTests := true, laidLooks := .later }
def FlowEffectsUptoCardSaid : Prop := Claim7.holds Tryz.pinned (.plain (OpenSpec.upto flowEffectsSpec)) flowEffectsUptoCard

/-- THE SECOND FORM's CARD OF 'aquiferlaw16.FlowScopes'. -/
def flowScopesUptoCard : Claim7 := { stood := { row := flowScopesUptoRow, standIns := [], harness := (true, "b6cee863da8cb848848a116177670bf7af97aa870adbca4bd310ec42c70d3842"), looks := false }, kinds := [], alts := [], laidByText := true, laidKinds := [.data, .data, .data], laidTests := true, laidLooks := .later }
def FlowScopesUptoCardSaid : Prop := Claim7.holds Tryz.pinned (.plain (OpenSpec.upto flowScopesSpec)) flowScopesUptoCard

/-- THE SECOND FORM's CARD OF 'aquiferlaw16.FlowRows'. -/
def flowRowsUptoCard : Claim7 := { stood := { row := flowRowsUptoRow, standIns := [], harness := (true, "b6cee863da8cb848848a116177670bf7af97aa870adbca4bd310ec42c70d3842"), looks := false }, kinds := [], alts := [], laidByText := true, laidKinds := [.data, .data, .data], laidTests := true, laidLooks := .later }
def FlowRowsUptoCardSaid : Prop := Claim7.holds Tryz.pinned (.plain (OpenSpec.upto flowRowsSpec)) flowRowsUptoCard

/-- THE SECOND FORM's CARD OF 'aquiferlaw16.FlowRaised'. -/
def flowRaisedUptoCard : Claim7 := { stood := { row := flowRaisedUptoRow, standIns := [], harness := (true, "b6cee863da8cb848848a116177670bf7af97aa870adbca4bd310ec42c70d3842"), looks := false }, kinds := [], alts := [], laidByText := true, laidKinds := [.data, .data, .data], laidTests := true, laidLooks := .later }
def FlowRaisedUptoCardSaid : Prop := Claim7.holds Tryz.pinned (.plain (OpenSpec.upto flowRaisedSpec)) flowRaisedUptoCard
end Rows
end Go.Proofs.YtfolmdfljpkpeaaGreatDoor
