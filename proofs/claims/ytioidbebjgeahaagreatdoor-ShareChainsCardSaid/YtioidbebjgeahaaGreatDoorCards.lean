/-
  DERIVED. GIVEN WITH THE SEED: THE CARDS: each row of YtioidbebjgeahaaGreatDoorRows.lean that lists a variable, with what it lists TIED to the program's text (the seventh form; the later family's looks); each row that meets fmt, with fmt's text TOLD by the authors' own Lean function (tested against real Go, not proved from fmt's source: count such statements apart). THE CARD IS WHAT COUNTS. Prove the row's statement (the work); the ties are given (YtioidbebjgeahaaGreatDoorTie.lean); close each card by the builder's one call (the guide's Derived/Test/ToyasCard.lean, 'card_holds'). Laid BY PROGRAM, IN A SANDBOX (cutbox-door.mjs). By AI agents, Wed Nov 11 2026. No macro, syntax, notation, axiom, sorry.
-/
import Derived.Test.YtioidbebjgeahaaGreatDoorRows
import GoSem.ClaimSeven
namespace Go.Proofs.YtioidbebjgeahaaGreatDoor
namespace Rows

/-- THE TIED CARD OF 'customhouselaw20.ShareMatchesReference'. -/
def shareMatchesReferenceCard : Claim7 := { stood := { row := shareMatchesReferenceRow, standIns := [], harness := (true, "97ff89117d40c1e28d43ae9b3bbab4c9d277201d61d73a5ab3312bf3b7987eff"), looks := true }, kinds := [], alts := [], laidByText := true, laidKinds := [.data, .data, .data, .data, .sentinel, .sentinel, .pinned], laidTests := true, laidLooks := .later }
def ShareMatchesReferenceCardSaid : Prop := Claim7.holds Tryz.pinned (.plain (OpenSpec.ofChange shareMatchesReferenceSpec)) shareMatchesReferenceCard

/-- THE TIED CARD OF 'customhouselaw20.ShareChains'. -/
def shareChainsCard : Claim7 := { stood := { row := shareChainsRow, standIns := [], harness := (true, "97ff89117d40c1e28d43ae9b3bbab4c9d277201d61d73a5ab3312bf3b7987eff"), looks := true }, kinds := [], alts := [], laidByText := true, laidKinds := [.data, .data, .data, .data, .sentinel, .sentinel, .pinned], laidTests := true, laidLooks := .later }
def ShareChainsCardSaid : Prop := Claim7.holds Tryz.pinned (.plain (OpenSpec.ofChange shareChainsSpec)) shareChainsCard

/-- THE TIED CARD OF 'customhouselaw20.ShareSolves'. -/
def shareSolvesCard : Claim7 := { stood := { row := shareSolvesRow, standIns := [], harness := (true, "97ff89117d40c1e28d43ae9b3bbab4c9d277201d61d73a5ab3312bf3b7987eff"), looks := true }, kinds := [], alts := [], laidByText := true, laidKinds := [.data, .data, .data, .data, .sentinel, .sentinel, .pinned], laidTests := true, laidLooks := .later }
def ShareSolvesCardSaid : Prop := Claim7.holds Tryz.pinned (.plain (OpenSpec.ofChange shareSolvesSpec)) shareSolvesCard

/-- THE TIED CARD OF 'customhouselaw20.ShareLeast'. -/
def shareLeastCard : Claim7 := { stood := { row := shareLeastRow, standIns := [], harness := (true, "97ff89117d40c1e28d43ae9b3bbab4c9d277201d61d73a5ab3312bf3b7987eff"), looks := true }, kinds := [], alts := [], laidByText := true, laidKinds := [.data, .data, .data, .data, .sentinel, .sentinel, .pinned], laidTests := true, laidLooks := .later }
def ShareLeastCardSaid : Prop := Claim7.holds Tryz.pinned (.plain (OpenSpec.ofChange shareLeastSpec)) shareLeastCard

/-- THE TIED CARD OF 'customhouselaw20.ShareMore'. -/
def shareMoreCard : Claim7 := { stood := { row := shareMoreRow, standIns := [], harness := (true, "97ff89117d40c1e28d43ae9b3bbab4c9d277201d61d73a5ab3312bf3b7987eff"), looks := true }, kinds := [], alts := [], laidByText := true, laidKinds := [.data, .data, .data, .data, .sentinel, .sentinel, .pinned], laidTests := true, laidLooks := .later }
def ShareMoreCardSaid : Prop := Claim7.holds Tryz.pinned (.plain (OpenSpec.ofChange shareMoreSpec)) shareMoreCard

/-- THE TIED CARD OF 'customhouselaw20.ShareApproaches'. -/
def shareApproachesCard : Claim7 := { stood := { row := shareApproachesRow, standIns := [], harness := (true, "97ff89117d40c1e28d43ae9b3bbab4c9d277201d61d73a5ab3312bf3b7987eff"), looks := true }, kinds := [], alts := [], laidByText := true, laidKinds := [.data, .data, .data, .data, .sentinel, .sentinel, .pinned], laidTests := true, laidLooks := .later }
def ShareApproachesCardSaid : Prop := Claim7.holds Tryz.pinned (.plain (OpenSpec.ofChange shareApproachesSpec)) shareApproachesCard

/-- THE TIED CARD OF 'customhouselaw20.ShareWithout'. -/
def shareWithoutCard : Claim7 := { stood := { row := shareWithoutRow, standIns := [], harness := (true, "97ff89117d40c1e28d43ae9b3bbab4c9d277201d61d73a5ab3312bf3b7987eff"), looks := true }, kinds := [], alts := [], laidByText := true, laidKinds := [.data, .data, .data, .data, .sentinel, .sentinel, .pinned], laidTests := true, laidLooks := .later }
def ShareWithoutCardSaid : Prop := Claim7.holds Tryz.pinned (.plain (OpenSpec.ofChange shareWithoutSpec)) shareWithoutCard

/-- THE TIED CARD OF 'customhouselaw21.BoundMatchesReference'. -/
def boundMatchesReferenceCard : Claim7 := { stood := { row := boundMatchesReferenceRow, standIns := [], harness := (true, "97ff89117d40c1e28d43ae9b3bbab4c9d277201d61d73a5ab3312bf3b7987eff"), looks := true }, kinds := [], alts := [], laidByText := true, laidKinds := [.data, .data, .data, .data, .sentinel, .sentinel, .pinned], laidTests := true, laidLooks := .later }
def BoundMatchesReferenceCardSaid : Prop := Claim7.holds Tryz.pinned (.plain (OpenSpec.ofChange boundMatchesReferenceSpec)) boundMatchesReferenceCard

/-- THE TIED CARD OF 'customhouselaw21.BoundHolds'. -/
def boundHoldsCard : Claim7 := { stood := { row := boundHoldsRow, standIns := [], harness := (true, "97ff89117d40c1e28d43ae9b3bbab4c9d277201d61d73a5ab3312bf3b7987eff"), looks := true }, kinds := [], alts := [], laidByText := true, laidKinds := [.data, .data, .data, .data, .sentinel, .sentinel, .pinned], laidTests := true, laidLooks := .later }
def BoundHoldsCardSaid : Prop := Claim7.holds Tryz.pinned (.plain (OpenSpec.ofChange boundHoldsSpec)) boundHoldsCard

/-- THE TIED CARD OF 'customhouselaw21.BoundExact'. -/
def boundExactCard : Claim7 := { stood := { row := boundExactRow, standIns := [], harness := (true, "97ff89117d40c1e28d43ae9b3bbab4c9d277201d61d73a5ab3312bf3b7987eff"), looks := true }, kinds := [], alts := [], laidByText := true, laidKinds := [.data, .data, .data, .data, .sentinel, .sentinel, .pinned], laidTests := true, laidLooks := .later }
def BoundExactCardSaid : Prop := Claim7.holds Tryz.pinned (.plain (OpenSpec.ofChange boundExactSpec)) boundExactCard

/-- THE TIED CARD OF 'customhouselaw21.BoundMeets'. -/
def boundMeetsCard : Claim7 := { stood := { row := boundMeetsRow, standIns := [], harness := (true, "97ff89117d40c1e28d43ae9b3bbab4c9d277201d61d73a5ab3312bf3b7987eff"), looks := true }, kinds := [], alts := [], laidByText := true, laidKinds := [.data, .data, .data, .data, .sentinel, .sentinel, .pinned], laidTests := true, laidLooks := .later }
def BoundMeetsCardSaid : Prop := Claim7.holds Tryz.pinned (.plain (OpenSpec.ofChange boundMeetsSpec)) boundMeetsCard

/-- THE TIED CARD OF 'customhouselaw21.BoundJoins'. -/
def boundJoinsCard : Claim7 := { stood := { row := boundJoinsRow, standIns := [], harness := (true, "97ff89117d40c1e28d43ae9b3bbab4c9d277201d61d73a5ab3312bf3b7987eff"), looks := true }, kinds := [], alts := [], laidByText := true, laidKinds := [.data, .data, .data, .data, .sentinel, .sentinel, .pinned], laidTests := true, laidLooks := .later }
def BoundJoinsCardSaid : Prop := Claim7.holds Tryz.pinned (.plain (OpenSpec.ofChange boundJoinsSpec)) boundJoinsCard

/-- THE SECOND FORM's CARD OF 'customhouselaw20.ShareMatchesReference'. -/
def shareMatchesReferenceUptoCard : Claim7 := { stood := { row := shareMatchesReferenceUptoRow, standIns := [], harness := (true, "97ff89117d40c1e28d43ae9b3bbab4c9d277201d61d73a5ab3312bf3b7987eff"), looks := true }, kinds := [], alts := [], laidByText := true, laidKinds := [.data, .data, .data, .data, .sentinel, .sentinel, .pinned], laidTests := true, laidLooks := .later }
def ShareMatchesReferenceUptoCardSaid : Prop := Claim7.holds Tryz.pinned (.plain (OpenSpec.upto shareMatchesReferenceSpec)) shareMatchesReferenceUptoCard

/-- THE SECOND FORM's CARD OF 'customhouselaw20.ShareChains'. -/
def shareChainsUptoCard : Claim7 := { stood := { row := shareChainsUptoRow, standIns := [], harness := (true, "97ff89117d40c1e28d43ae9b3bbab4c9d277201d61d73a5ab3312bf3b7987eff"), looks := true }, kinds := [], alts := [], laidByText := true, laidKinds := [.data, .data, .data, .data, .sentinel, .sentinel, .pinned], laidTests := true, laidLooks := .later }
def ShareChainsUptoCardSaid : Prop := Claim7.holds Tryz.pinned (.plain (OpenSpec.upto shareChainsSpec)) shareChainsUptoCard

/-- THE SECOND FORM's CARD OF 'customhouselaw20.ShareSolves'. -/
def shareSolvesUptoCard : Claim7 := { stood := { row := shareSolvesUptoRow, standIns := [], harness := (true, "97ff89117d40c1e28d43ae9b3bbab4c9d277201d61d73a5ab3312bf3b7987eff"), looks := true }, kinds := [], alts := [], laidByText := true, laidKinds := [.data, .data, .data, .data, .sentinel, .sentinel, .pinned], laidTests := true, laidLooks := .later }
def ShareSolvesUptoCardSaid : Prop := Claim7.holds Tryz.pinned (.plain (OpenSpec.upto shareSolvesSpec)) shareSolvesUptoCard

/-- THE SECOND FORM's CARD OF 'customhouselaw20.ShareLeast'. -/
def shareLeastUptoCard : Claim7 := { stood := { row := shareLeastUptoRow, standIns := [], harness := (true, "97ff89117d40c1e28d43ae9b3bbab4c9d277201d61d73a5ab3312bf3b7987eff"), looks := true }, kinds := [], alts := [], laidByText := true, laidKinds := [.data, .data, .data, .data, .sentinel, .sentinel, .pinned], laidTests := true, laidLooks := .later }
def ShareLeastUptoCardSaid : Prop := Claim7.holds Tryz.pinned (.plain (OpenSpec.upto shareLeastSpec)) shareLeastUptoCard

/-- THE SECOND FORM's CARD OF 'customhouselaw20.ShareMore'. -/
def shareMoreUptoCard : Claim7 := { stood := { row := shareMoreUptoRow, standIns := [], harness := (true, "97ff89117d40c1e28d43ae9b3bbab4c9d277201d61d73a5ab3312bf3b7987eff"), looks := true }, kinds := [], alts := [], laidByText := true, laidKinds := [.data, .data, .data, .data, .sentinel, .sentinel, .pinned], laidTests := true, laidLooks := .later }
def ShareMoreUptoCardSaid : Prop := Claim7.holds Tryz.pinned (.plain (OpenSpec.upto shareMoreSpec)) shareMoreUptoCard

/-- THE SECOND FORM's CARD OF 'customhouselaw20.ShareApproaches'. -/
def shareApproachesUptoCard : Claim7 := { stood := { row := shareApproachesUptoRow, standIns := [], harness := (true, "97ff89117d40c1e28d43ae9b3bbab4c9d277201d61d73a5ab3312bf3b7987eff"), looks := true }, kinds := [], alts := [], laidByText := true, laidKinds := [.data, .data, .data, .data, .sentinel, .sentinel, .pinned], laidTests := true, laidLooks := .later }
def ShareApproachesUptoCardSaid : Prop := Claim7.holds Tryz.pinned (.plain (OpenSpec.upto shareApproachesSpec)) shareApproachesUptoCard

/-- THE SECOND FORM's CARD OF 'customhouselaw20.ShareWithout'. -/
def shareWithoutUptoCard : Claim7 := { stood := { row := shareWithoutUptoRow, standIns := [], harness := (true, "97ff89117d40c1e28d43ae9b3bbab4c9d277201d61d73a5ab3312bf3b7987eff"), looks := true }, kinds := [], alts := [], laidByText := true, laidKinds := [.data, .data, .data, .data, .sentinel, .sentinel, .pinned], laidTests := true, laidLooks := .later }
def ShareWithoutUptoCardSaid : Prop := Claim7.holds Tryz.pinned (.plain (OpenSpec.upto shareWithoutSpec)) shareWithoutUptoCard

/-- THE SECOND FORM's CARD OF 'customhouselaw21.BoundMatchesReference'. -/
def boundMatchesReferenceUptoCard : Claim7 := { stood := { row := boundMatchesReferenceUptoRow, standIns := [], harness := (true, "97ff89117d40c1e28d43ae9b3bbab4c9d277201d61d73a5ab3312bf3b7987eff"), looks := true }, kinds := [], alts := [], laidByText := true, laidKinds := [.data, .data, .data, .data, .sentinel, .sentinel, .pinned], laidTests := true, laidLooks := .later }
def BoundMatchesReferenceUptoCardSaid : Prop := Claim7.holds Tryz.pinned (.plain (OpenSpec.upto boundMatchesReferenceSpec)) boundMatchesReferenceUptoCard

/-- THE SECOND FORM's CARD OF 'customhouselaw21.BoundHolds'. -/
def boundHoldsUptoCard : Claim7 := { stood := { row := boundHoldsUptoRow, standIns := [], harness := (true, "97ff89117d40c1e28d43ae9b3bbab4c9d277201d61d73a5ab3312bf3b7987eff"), looks := true }, kinds := [], alts := [], laidByText := true, laidKinds := [.data, .data, .data, .data, .sentinel, .sentinel, .pinned], laidTests := true, laidLooks := .later }
def BoundHoldsUptoCardSaid : Prop := Claim7.holds Tryz.pinned (.plain (OpenSpec.upto boundHoldsSpec)) boundHoldsUptoCard

/-- THE SECOND FORM's CARD OF 'customhouselaw21.BoundExact'. -/
def boundExactUptoCard : Claim7 := { stood := { row := boundExactUptoRow, standIns := [], harness := (true, "97ff89117d40c1e28d43ae9b3bbab4c9d277201d61d73a5ab3312bf3b7987eff"), looks := true }, kinds := [], alts := [], laidByText := true, laidKinds := [.data, .data, .data, .data, .sentinel, .sentinel, .pinned], laidTests := true, laidLooks := .later }
def BoundExactUptoCardSaid : Prop := Claim7.holds Tryz.pinned (.plain (OpenSpec.upto boundExactSpec)) boundExactUptoCard

/-- THE SECOND FORM's CARD OF 'customhouselaw21.BoundMeets'. -/
def boundMeetsUptoCard : Claim7 := { stood := { row := boundMeetsUptoRow, standIns := [], harness := (true, "97ff89117d40c1e28d43ae9b3bbab4c9d277201d61d73a5ab3312bf3b7987eff"), looks := true }, kinds := [], alts := [], laidByText := true, laidKinds := [.data, .data, .data, .data, .sentinel, .sentinel, .pinned], laidTests := true, laidLooks := .later }
def BoundMeetsUptoCardSaid : Prop := Claim7.holds Tryz.pinned (.plain (OpenSpec.upto boundMeetsSpec)) boundMeetsUptoCard

/-- THE SECOND FORM's CARD OF 'customhouselaw21.BoundJoins'. -/
def boundJoinsUptoCard : Claim7 := { stood := { row := boundJoinsUptoRow, standIns := [], harness := (true, "97ff89117d40c1e28d43ae9b3bbab4c9d277201d61d73a5ab3312bf3b7987eff"), looks := true }, kinds := [], alts := [], laidByText := true, laidKinds := [.data, .data, .data, .data, .sentinel, .sentinel, .pinned], laidTests := true, laidLooks := .later }
def BoundJoinsUptoCardSaid : Prop := Claim7.holds Tryz.pinned (.plain (OpenSpec.upto boundJoinsSpec)) boundJoinsUptoCard
end Rows
end Go.Proofs.YtioidbebjgeahaaGreatDoor
