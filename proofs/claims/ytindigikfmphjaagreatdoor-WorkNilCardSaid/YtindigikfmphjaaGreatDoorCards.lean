/-
  DERIVED. GIVEN WITH THE SEED: THE CARDS: each row of YtindigikfmphjaaGreatDoorRows.lean that lists a variable, with what it lists TIED to the program's text (the seventh form; the later family's looks); each row that meets fmt, with fmt's text TOLD by the authors' own Lean function (tested against real Go, not proved from fmt's source: count such statements apart). THE CARD IS WHAT COUNTS. Prove the row's statement (the work); the ties are given (YtindigikfmphjaaGreatDoorTie.lean); close each card by the builder's one call (the guide's Derived/Test/ToyasCard.lean, 'card_holds'). Laid BY PROGRAM, IN A SANDBOX (cutbox-door.mjs). By AI agents, Wed Nov 11 2026. No macro, syntax, notation, axiom, sorry.
-/
import Derived.Test.YtindigikfmphjaaGreatDoorRows
import GoSem.ClaimSeven
namespace Go.Proofs.YtindigikfmphjaaGreatDoor
namespace Rows

/-- THE TIED CARD OF 'aquiferlaw25.WorkNil'. -/
def workNilCard : Claim7 := { stood := { row := workNilRow, standIns := [], harness := (true, "f10a480642c7ab6a08c20712bb75c4b6af9132c68c70563d533679a28beada8d"), looks := true }, kinds := [], alts := [], laidByText := true, laidKinds := [.data, .data, .data, .sentinel, .sentinel], laidTests := true, laidLooks := .later }
def WorkNilCardSaid : Prop := Claim7.holds Tryz.pinned (.plain (OpenSpec.ofChange workNilSpec)) workNilCard

/-- THE SECOND FORM's CARD OF 'aquiferlaw25.WorkNil'. -/
def workNilUptoCard : Claim7 := { stood := { row := workNilUptoRow, standIns := [], harness := (true, "f10a480642c7ab6a08c20712bb75c4b6af9132c68c70563d533679a28beada8d"), looks := true }, kinds := [], alts := [], laidByText := true, laidKinds := [.data, .data, .data, .sentinel, .sentinel], laidTests := true, laidLooks := .later }
def WorkNilUptoCardSaid : Prop := Claim7.holds Tryz.pinned (.plain (OpenSpec.upto workNilSpec)) workNilUptoCard
end Rows
end Go.Proofs.YtindigikfmphjaaGreatDoor
