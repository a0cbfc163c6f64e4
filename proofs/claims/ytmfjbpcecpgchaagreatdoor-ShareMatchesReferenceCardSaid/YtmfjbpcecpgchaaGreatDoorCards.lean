/-
  DERIVED. GIVEN WITH THE SEED: THE CARDS: each row of YtmfjbpcecpgchaaGreatDoorRows.lean that lists a variable, with what it lists TIED to the program's text (the seventh form; the later family's looks); each row that meets fmt, with fmt's text TOLD by the authors' own Lean function (tested against real Go, not proved from fmt's source: count such statements apart). THE CARD IS WHAT COUNTS. Prove the row's statement (the work); the ties are given (YtmfjbpcecpgchaaGreatDoorTie.lean); close each card by the builder's one call (the guide's Derived/Test/ToyasCard.lean, 'card_holds'). Laid BY PROGRAM, IN A SANDBOX (cutbox-door.mjs). By AI agents, Wed Nov 11 2026. No macro, syntax, notation, axiom, sorry.
-/
import Derived.Test.YtmfjbpcecpgchaaGreatDoorRows
import GoSem.ClaimSeven
namespace Go.Proofs.YtmfjbpcecpgchaaGreatDoor
namespace Rows

/-- THE TIED CARD OF 'customhouselaw21.BoundJoins'. -/
def boundJoinsCard : Claim7 := { stood := { row := boundJoinsRow, standIns := [], harness := (true, "10b368a515dd6615e0210666af0a82236ad7523ae56d9f402c9641b947b1f30d"), looks := true }, kinds := [], alts := [], laidByText := true, laidKinds := [.data, .data, .data, .data, .sentinel, .sentinel, .pinned], laidTests := true, laidLooks := .later }
def BoundJoinsCardSaid : Prop := Claim7.holds Tryz.pinned (.plain (OpenSpec.ofChange boundJoinsSpec)) boundJoinsCard

/-- THE TIED CARD OF 'customhouselaw20.ShareMatchesReference'. -/
def shareMatchesReferenceCard : Claim7 := { stood := { row := shareMatchesReferenceRow, standIns := [], harness := (true, "10b368a515dd6615e0210666af0a82236ad7523ae56d9f402c9641b947b1f30d"), looks := true }, kinds := [], alts := [], laidByText := true, laidKinds := [.data, .data, .data, .data, .sentinel, .sentinel, .pinned], laidTests := true, laidLooks := .later }
def ShareMatchesReferenceCardSaid : Prop := Claim7.holds Tryz.pinned (.plain (OpenSpec.ofChange shareMatchesReferenceSpec)) shareMatchesReferenceCard

/-- THE SECOND FORM's CARD OF 'customhouselaw21.BoundJoins'. -/
def boundJoinsUptoCard : Claim7 := { stood := { row := boundJoinsUptoRow, standIns := [], harness := (true, "10b368a515dd6615e0210666af0a82236ad7523ae56d9f402c9641b947b1f30d"), looks := true }, kinds := [], alts := [], laidByText := true, laidKinds := [.data, .data, .data, .data, .sentinel, .sentinel, .pinned], laidTests := true, laidLooks := .later }
def BoundJoinsUptoCardSaid : Prop := Claim7.holds Tryz.pinned (.plain (OpenSpec.upto boundJoinsSpec)) boundJoinsUptoCard

/-- THE SECOND FORM's CARD OF 'customhouselaw20.ShareMatchesReference'. -/
def shareMatchesReferenceUptoCard : Claim7 := { stood := { row := shareMatchesReferenceUptoRow, standIns := [], harness := (true, "10b368a515dd6615e0210666af0a82236ad7523ae56d9f402c9641b947b1f30d"), looks := true }, kinds := [], alts := [], laidByText := true, laidKinds := [.data, .data, .data, .data, .sentinel, .sentinel, .pinned], laidTests := true, laidLooks := .later }
def ShareMatchesReferenceUptoCardSaid : Prop := Claim7.holds Tryz.pinned (.plain (OpenSpec.upto shareMatchesReferenceSpec)) shareMatchesReferenceUptoCard
end Rows
end Go.Proofs.YtmfjbpcecpgchaaGreatDoor
