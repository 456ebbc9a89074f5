/-
  DERIVED. GIVEN WITH THE SEED: THE CARDS: each row of YtmcjcbldmoijiaaGreatDoorRows.lean that lists a variable, with what it lists TIED to the program's text (the seventh form; the later family's looks); each row that meets fmt, with fmt's text TOLD by the authors' own Lean function (tested against real Go, not proved from fmt's source: count such statements apart). THE CARD IS WHAT COUNTS. Prove the row's statement (the work); the ties are given (YtmcjcbldmoijiaaGreatDoorTie.lean); close each card by the builder's one call (the guide's Derived/Test/ToyasCard.lean, 'card_holds'). Laid BY PROGRAM, IN A SANDBOX (cutbox-door.mjs). By AI agents, Wed Nov 11 2026. No macro, syntax, notation, axiom, sorry.
-/
import Derived.Test.YtmcjcbldmoijiaaGreatDoorRows
import GoSem.ClaimSeven
namespace Go.Proofs.YtmcjcbldmoijiaaGreatDoor
namespace Rows

/-- THE TIED CARD OF 'aquiferlaw15.FaceOf'. -/
def faceOfCard : Claim7 := { stood := { row := faceOfRow, standIns := [], harness := (true, "22d1dfce75443bc9104edbaa0ed78765737b56bd4d17307340751fa2d3f20d9a"), looks := true }, kinds := [], alts := [], laidByText := true, laidKinds := [.data, .data, .data, .sentinel, .sentinel], laidTests := true, laidLooks := .later }
def FaceOfCardSaid : Prop := Claim7.holds Tryz.pinned (.plain (OpenSpec.ofChange faceOfSpec)) faceOfCard

/-- THE TIED CARD OF 'aquiferlaw15.FaceBack'. -/
def faceBackCard : Claim7 := { stood := { row := faceBackRow, standIns := [], harness := (true, "22d1dfce75443bc9104edbaa0ed78765737b56bd4d17307340751fa2d3f20d9a"), looks := true }, kinds := [], alts := [], laidByText := true, laidKinds := [.data, .data, .data, .sentinel, .sentinel], laidTests := true, laidLooks := .later }
def FaceBackCardSaid : Prop := Claim7.holds Tryz.pinned (.plain (OpenSpec.ofChange faceBackSpec)) faceBackCard

/-- THE TIED CARD OF 'aquiferlaw15.FaceSets'. -/
def faceSetsCard : Claim7 := { stood := { row := faceSetsRow, standIns := [], harness := (true, "22d1dfce75443bc9104edbaa0ed78765737b56bd4d17307340751fa2d3f20d9a"), looks := true }, kinds := [], alts := [], laidByText := true, laidKinds := [.data, .data, .data, .sentinel, .sentinel], laidTests := true, laidLooks := .later }
def FaceSetsCardSaid : Prop := Claim7.holds Tryz.pinned (.plain (OpenSpec.ofChange faceSetsSpec)) faceSetsCard

/-- THE TIED CARD OF 'aquiferlaw15.FaceHides'. -/
def faceHidesCard : Claim7 := { stood := { row := faceHidesRow, standIns := [], harness := (true, "22d1dfce75443bc9104edbaa0ed78765737b56bd4d17307340751fa2d3f20d9a"), looks := true }, kinds := [], alts := [], laidByText := true, laidKinds := [.data, .data, .data, .sentinel, .sentinel], laidTests := true, laidLooks := .later }
def FaceHidesCardSaid : Prop := Claim7.holds Tryz.pinned (.plain (OpenSpec.ofChange faceHidesSpec)) faceHidesCard

/-- THE SECOND FORM's CARD OF 'aquiferlaw15.FaceOf'. -/
def faceOfUptoCard : Claim7 := { stood := { row := faceOfUptoRow, standIns := [], harness := (true, "22d1dfce75443bc9104edbaa0ed78765737b56bd4d17307340751fa2d3f20d9a"), looks := true }, kinds := [], alts := [], laidByText := true, laidKinds := [.data, .data, .data, .sentinel, .sentinel], laidTests := true, laidLooks := .later }
def FaceOfUptoCardSaid : Prop := Claim7.holds Tryz.pinned (.plain (OpenSpec.upto faceOfSpec)) faceOfUptoCard

/-- THE SECOND FORM's CARD OF 'aquiferlaw15.FaceBack'. -/
def faceBackUptoCard : Claim7 := { stood := { row := faceBackUptoRow, standIns := [], harness := (true, "22d1dfce75443bc9104edbaa0ed78765737b56bd4d17307340751fa2d3f20d9a"), looks := true }, kinds := [], alts := [], laidByText := true, laidKinds := [.data, .data, .data, .sentinel, .sentinel], laidTests := true, laidLooks := .later }
def FaceBackUptoCardSaid : Prop := Claim7.holds Tryz.pinned (.plain (OpenSpec.upto faceBackSpec)) faceBackUptoCard

/-- THE SECOND FORM's CARD OF 'aquiferlaw15.FaceSets'. -/
def faceSetsUptoCard : Claim7 := { stood := { row := faceSetsUptoRow, standIns := [], harness := (true, "22d1dfce75443bc9104edbaa0ed78765737b56bd4d17307340751fa2d3f20d9a"), looks := true }, kinds := [], alts := [], laidByText := true, laidKinds := [.data, .data, .data, .sentinel, .sentinel], laidTests := true, laidLooks := .later }
def FaceSetsUptoCardSaid : Prop := Claim7.holds Tryz.pinned (.plain (OpenSpec.upto faceSetsSpec)) faceSetsUptoCard

/-- THE SECOND FORM's CARD OF 'aquiferlaw15.FaceHides'. -/
def faceHidesUptoCard : Claim7 := { stood := { row := faceHidesUptoRow, standIns := [], harness := (true, "22d1dfce75443bc9104edbaa0ed78765737b56bd4d17307340751fa2d3f20d9a"), looks := true }, kinds := [], alts := [], laidByText := true, laidKinds := [.data, .data, .data, .sentinel, .sentinel], laidTests := true, laidLooks := .later }
def FaceHidesUptoCardSaid : Prop := Claim7.holds Tryz.pinned (.plain (OpenSpec.upto faceHidesSpec)) faceHidesUptoCard
end Rows
end Go.Proofs.YtmcjcbldmoijiaaGreatDoor
