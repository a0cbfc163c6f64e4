/- TopHoldings: the statement. -/
import Derived.Test.YtefmpngjjmddjaaGreatDoorKgR
open Go.Proofs.Tryz
namespace Go.Proofs.YtefmpngjjmddjaaGreatDoor.fnTopHoldings
open Go.ChangeShapes Go.WideShapes Go.ChangeAt Go.RowKit
theorem card:Rows.TopHoldingsCardSaid :=
 Claim7.holds_tied_plain_at .later [] _ _ _ _ said (fun _ h=>by cases h) Vd (fun _ h=>by cases h) topHoldings_row_tie rfl ⟨rfl,rfl⟩ (by kernel_rfl) rfl plain Ve
end Go.Proofs.YtefmpngjjmddjaaGreatDoor.fnTopHoldings
