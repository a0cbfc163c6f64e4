/-
  DERIVED. GIVEN WITH THE SEED: THE CARDS: each row of YtilodknkildkbaaGreatDoorRows.lean that lists a variable, with what it lists TIED to the program's text (the seventh form; the later family's looks); each row that meets fmt, with fmt's text TOLD by the authors' own Lean function (tested against real Go, not proved from fmt's source: count such statements apart). THE CARD IS WHAT COUNTS. Prove the row's statement (the work); the ties are given (YtilodknkildkbaaGreatDoorTie.lean); close each card by the builder's one call (the guide's Derived/Test/ToyasCard.lean, 'card_holds'). Laid BY PROGRAM, IN A SANDBOX (cutbox-door.mjs). By AI agents, Wed Nov 11 2026. No macro, syntax, notation, axiom, sorry.
-/
import Derived.Test.YtilodknkildkbaaGreatDoorRows
import GoSem.ClaimSeven
namespace Go.Proofs.YtilodknkildkbaaGreatDoor
namespace Rows

/-- THE TIED CARD OF 'customhouselaw21.BoundMatchesReference'. -/
def boundMatchesReferenceCard : Claim7 := { stood := { row := boundMatchesReferenceRow, standIns := [], harness := (true, "f2f025c5670f937145a1d2d31451a3cb5ee7a2f704f55418be47775e5888a149"), looks := true }, kinds := [], alts := [], laidByText := true, laidKinds := [.data, .data, .data, .data, .sentinel, .sentinel, .pinned], laidTests := true, laidLooks := .later }
def BoundMatchesReferenceCardSaid : Prop := Claim7.holds Tryz.pinned (.plain (OpenSpec.ofChange boundMatchesReferenceSpec)) boundMatchesReferenceCard

/-- THE TIED CARD OF 'customhouselaw21.BoundHolds'. -/
def boundHoldsCard : Claim7 := { stood := { row := boundHoldsRow, standIns := [], harness := (true, "f2f025c5670f937145a1d2d31451a3cb5ee7a2f704f55418be47775e5888a149"), looks := true }, kinds := [], alts := [], laidByText := true, laidKinds := [.data, .data, .data, .data, .sentinel, .sentinel, .pinned], laidTests := true, laidLooks := .later }
def BoundHoldsCardSaid : Prop := Claim7.holds Tryz.pinned (.plain (OpenSpec.ofChange boundHoldsSpec)) boundHoldsCard

/-- THE TIED CARD OF 'customhouselaw21.BoundExact'. -/
def boundExactCard : Claim7 := { stood := { row := boundExactRow, standIns := [], harness := (true, "f2f025c5670f937145a1d2d31451a3cb5ee7a2f704f55418be47775e5888a149"), looks := true }, kinds := [], alts := [], laidByText := true, laidKinds := [.data, .data, .data, .data, .sentinel, .sentinel, .pinned], laidTests := true, laidLooks := .later }
def BoundExactCardSaid : Prop := Claim7.holds Tryz.pinned (.plain (OpenSpec.ofChange boundExactSpec)) boundExactCard

/-- THE TIED CARD OF 'customhouselaw21.BoundMeets'. -/
def boundMeetsCard : Claim7 := { stood := { row := boundMeetsRow, standIns := [], harness := (true, "f2f025c5670f937145a1d2d31451a3cb5ee7a2f704f55418be47775e5888a149"), looks := true }, kinds := [], alts := [], laidByText := true, laidKinds := [.data, .data, .data, .data, .sentinel, .sentinel, .pinned], laidTests := true, laidLooks := .later }
def BoundMeetsCardSaid : Prop := Claim7.holds Tryz.pinned (.plain (OpenSpec.ofChange boundMeetsSpec)) boundMeetsCard

/-- THE TIED CARD OF 'customhouselaw21.BoundJoins'. -/
def boundJoinsCard : Claim7 := { stood := { row := boundJoinsRow, standIns := [], harness := (true, "f2f025c5670f937145a1d2d31451a3cb5ee7a2f704f55418be47775e5888a149"), looks := true }, kinds := [], alts := [], laidByText := true, laidKinds := [.data, .data, .data, .data, .sentinel, .sentinel, .pinned], laidTests := true, laidLooks := .later }
def BoundJoinsCardSaid : Prop := Claim7.holds Tryz.pinned (.plain (OpenSpec.ofChange boundJoinsSpec)) boundJoinsCard

/-- THE TIED CARD OF 'customhouselaw21.BoundScales'. -/
def boundScalesCard : Claim7 := { stood := { row := boundScalesRow, standIns := [], harness := (true, "f2f025c5670f937145a1d2d31451a3cb5ee7a2f704f55418be47775e5888a149"), looks := true }, kinds := [], alts := [], laidByText := true, laidKinds := [.data, .data, .data, .data, .sentinel, .sentinel, .pinned], laidTests := true, laidLooks := .later }
def BoundScalesCardSaid : Prop := Claim7.holds Tryz.pinned (.plain (OpenSpec.ofChange boundScalesSpec)) boundScalesCard

/-- THE TIED CARD OF 'customhouselaw21.BoundFewer'. -/
def boundFewerCard : Claim7 := { stood := { row := boundFewerRow, standIns := [], harness := (true, "f2f025c5670f937145a1d2d31451a3cb5ee7a2f704f55418be47775e5888a149"), looks := true }, kinds := [], alts := [], laidByText := true, laidKinds := [.data, .data, .data, .data, .sentinel, .sentinel, .pinned], laidTests := true, laidLooks := .later }
def BoundFewerCardSaid : Prop := Claim7.holds Tryz.pinned (.plain (OpenSpec.ofChange boundFewerSpec)) boundFewerCard

/-- THE TIED CARD OF 'customhouselaw20.ShareMatchesReference'. -/
def shareMatchesReferenceCard : Claim7 := { stood := { row := shareMatchesReferenceRow, standIns := [], harness := (true, "f2f025c5670f937145a1d2d31451a3cb5ee7a2f704f55418be47775e5888a149"), looks := true }, kinds := [], alts := [], laidByText := true, laidKinds := [.data, .data, .data, .data, .sentinel, .sentinel, .pinned], laidTests := true, laidLooks := .later }
def ShareMatchesReferenceCardSaid : Prop := Claim7.holds Tryz.pinned (.plain (OpenSpec.ofChange shareMatchesReferenceSpec)) shareMatchesReferenceCard

/-- THE SECOND FORM's CARD OF 'customhouselaw21.BoundMatchesReference'. -/
def boundMatchesReferenceUptoCard : Claim7 := { stood := { row := boundMatchesReferenceUptoRow, standIns := [], harness := (true, "f2f025c5670f937145a1d2d31451a3cb5ee7a2f704f55418be47775e5888a149"), looks := true }, kinds := [], alts := [], laidByText := true, laidKinds := [.data, .data, .data, .data, .sentinel, .sentinel, .pinned], laidTests := true, laidLooks := .later }
def BoundMatchesReferenceUptoCardSaid : Prop := Claim7.holds Tryz.pinned (.plain (OpenSpec.upto boundMatchesReferenceSpec)) boundMatchesReferenceUptoCard

/-- THE SECOND FORM's CARD OF 'customhouselaw21.BoundHolds'. -/
def boundHoldsUptoCard : Claim7 := { stood := { row := boundHoldsUptoRow, standIns := [], harness := (true, "f2f025c5670f937145a1d2d31451a3cb5ee7a2f704f55418be47775e5888a149"), looks := true }, kinds := [], alts := [], laidByText := true, laidKinds := [.data, .data, .data, .data, .sentinel, .sentinel, .pinned], laidTests := true, laidLooks := .later }
def BoundHoldsUptoCardSaid : Prop := Claim7.holds Tryz.pinned (.plain (OpenSpec.upto boundHoldsSpec)) boundHoldsUptoCard

/-- THE SECOND FORM's CARD OF 'customhouselaw21.BoundExact'. -/
def boundExactUptoCard : Claim7 := { stood := { row := boundExactUptoRow, standIns := [], harness := (true, "f2f025c5670f937145a1d2d31451a3cb5ee7a2f704f55418be47775e5888a149"), looks := true }, kinds := [], alts := [], laidByText := true, laidKinds := [.data, .data, .data, .data, .sentinel, .sentinel, .pinned], laidTests := true, laidLooks := .later }
def BoundExactUptoCardSaid : Prop := Claim7.holds Tryz.pinned (.plain (OpenSpec.upto boundExactSpec)) boundExactUptoCard

/-- THE SECOND FORM's CARD OF 'customhouselaw21.BoundMeets'. -/
def boundMeetsUptoCard : Claim7 := { stood := { row := boundMeetsUptoRow, standIns := [], harness := (true, "f2f025c5670f937145a1d2d31451a3cb5ee7a2f704f55418be47775e5888a149"), looks := true }, kinds := [], alts := [], laidByText := true, laidKinds := [.data, .data, .data, .data, .sentinel, .sentinel, .pinned], laidTests := true, laidLooks := .later }
def BoundMeetsUptoCardSaid : Prop := Claim7.holds Tryz.pinned (.plain (OpenSpec.upto boundMeetsSpec)) boundMeetsUptoCard

/-- THE SECOND FORM's CARD OF 'customhouselaw21.BoundJoins'. -/
def boundJoinsUptoCard : Claim7 := { stood := { row := boundJoinsUptoRow, standIns := [], harness := (true, "f2f025c5670f937145a1d2d31451a3cb5ee7a2f704f55418be47775e5888a149"), looks := true }, kinds := [], alts := [], laidByText := true, laidKinds := [.data, .data, .data, .data, .sentinel, .sentinel, .pinned], laidTests := true, laidLooks := .later }
def BoundJoinsUptoCardSaid : Prop := Claim7.holds Tryz.pinned (.plain (OpenSpec.upto boundJoinsSpec)) boundJoinsUptoCard

/-- THE SECOND FORM's CARD OF 'customhouselaw21.BoundScales'. -/
def boundScalesUptoCard : Claim7 := { stood := { row := boundScalesUptoRow, standIns := [], harness := (true, "f2f025c5670f937145a1d2d31451a3cb5ee7a2f704f55418be47775e5888a149"), looks := true }, kinds := [], alts := [], laidByText := true, laidKinds := [.data, .data, .data, .data, .sentinel, .sentinel, .pinned], laidTests := true, laidLooks := .later }
def BoundScalesUptoCardSaid : Prop := Claim7.holds Tryz.pinned (.plain (OpenSpec.upto boundScalesSpec)) boundScalesUptoCard

/-- THE SECOND FORM's CARD OF 'customhouselaw21.BoundFewer'. -/
def boundFewerUptoCard : Claim7 := { stood := { row := boundFewerUptoRow, standIns := [], harness := (true, "f2f025c5670f937145a1d2d31451a3cb5ee7a2f704f55418be47775e5888a149"), looks := true }, kinds := [], alts := [], laidByText := true, laidKinds := [.data, .data, .data, .data, .sentinel, .sentinel, .pinned], laidTests := true, laidLooks := .later }
def BoundFewerUptoCardSaid : Prop := Claim7.holds Tryz.pinned (.plain (OpenSpec.upto boundFewerSpec)) boundFewerUptoCard

/-- THE SECOND FORM's CARD OF 'customhouselaw20.ShareMatchesReference'. -/
def shareMatchesReferenceUptoCard : Claim7 := { stood := { row := shareMatchesReferenceUptoRow, standIns := [], harness := (true, "f2f025c5670f937145a1d2d31451a3cb5ee7a2f704f55418be47775e5888a149"), looks := true }, kinds := [], alts := [], laidByText := true, laidKinds := [.data, .data, .data, .data, .sentinel, .sentinel, .pinned], laidTests := true, laidLooks := .later }
def ShareMatchesReferenceUptoCardSaid : Prop := Claim7.holds Tryz.pinned (.plain (OpenSpec.upto shareMatchesReferenceSpec)) shareMatchesReferenceUptoCard
end Rows
end Go.Proofs.YtilodknkildkbaaGreatDoor
