/-
  DERIVED. GIVEN WITH THE SEED: THE CARDS: each row of YtefmpngjjmddjaaGreatDoorRows.lean that lists a variable, with what it lists TIED to the program's text (the seventh form; the later family's looks); each row that meets fmt, with fmt's text TOLD by the authors' own Lean function (tested against real Go, not proved from fmt's source: count such statements apart). THE CARD IS WHAT COUNTS. Prove the row's statement (the work); the ties are given (YtefmpngjjmddjaaGreatDoorTie.lean); close each card by the builder's one call (the guide's Derived/Test/ToyasCard.lean, 'card_holds'). Laid BY PROGRAM, IN A SANDBOX (cutbox-door.mjs). By AI agents, Wed Nov 11 2026. No macro, syntax, notation, axiom, sorry.
-/
import Derived.Test.YtefmpngjjmddjaaGreatDoorRows
import GoSem.ClaimSeven
namespace Go.Proofs.YtefmpngjjmddjaaGreatDoor
namespace Rows

/-- THE TIED CARD OF 'customhousetop.TopHoldings'. -/
def topHoldingsCard : Claim7 := { stood := { row := topHoldingsRow, standIns := [], harness := (true, "94b9caec0d1510e61f1a42aaed7f4b8e5c8920c06108518548d934e8cc9beb51"), looks := true }, kinds := [], alts := [], laidByText := true, laidKinds := [.data, .data, .data, .data, .sentinel, .sentinel, .pinned], laidTests := true, laidLooks := .later }
def TopHoldingsCardSaid : Prop := Claim7.holds Tryz.pinned (.plain (OpenSpec.ofChange topHoldingsSpec)) topHoldingsCard

/-- THE TIED CARD OF 'customhousetop.TopBounds'. -/
def topBoundsCard : Claim7 := { stood := { row := topBoundsRow, standIns := [], harness := (true, "94b9caec0d1510e61f1a42aaed7f4b8e5c8920c06108518548d934e8cc9beb51"), looks := true }, kinds := [], alts := [], laidByText := true, laidKinds := [.data, .data, .data, .data, .sentinel, .sentinel, .pinned], laidTests := true, laidLooks := .later }
def TopBoundsCardSaid : Prop := Claim7.holds Tryz.pinned (.plain (OpenSpec.ofChange topBoundsSpec)) topBoundsCard

/-- THE SECOND FORM's CARD OF 'customhousetop.TopHoldings'. -/
def topHoldingsUptoCard : Claim7 := { stood := { row := topHoldingsUptoRow, standIns := [], harness := (true, "94b9caec0d1510e61f1a42aaed7f4b8e5c8920c06108518548d934e8cc9beb51"), looks := true }, kinds := [], alts := [], laidByText := true, laidKinds := [.data, .data, .data, .data, .sentinel, .sentinel, .pinned], laidTests := true, laidLooks := .later }
def TopHoldingsUptoCardSaid : Prop := Claim7.holds Tryz.pinned (.plain (OpenSpec.upto topHoldingsSpec)) topHoldingsUptoCard

/-- THE SECOND FORM's CARD OF 'customhousetop.TopBounds'. -/
def topBoundsUptoCard : Claim7 := { stood := { row := topBoundsUptoRow, standIns := [], harness := (true, "94b9caec0d1510e61f1a42aaed7f4b8e5c8920c06108518548d934e8cc9beb51"), looks := true }, kinds := [], alts := [], laidByText := true, laidKinds := [.data, .data, .data, .data, .sentinel, .sentinel, .pinned], laidTests := true, laidLooks := .later }
def TopBoundsUptoCardSaid : Prop := Claim7.holds Tryz.pinned (.plain (OpenSpec.upto topBoundsSpec)) topBoundsUptoCard
end Rows
end Go.Proofs.YtefmpngjjmddjaaGreatDoor
