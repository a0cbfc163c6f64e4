/- TopBounds: the statement. -/
import Derived.Test.YtefmpngjjmddjaaGreatDoorKhN
open Go.Proofs.Tryz
namespace Go.Proofs.YtefmpngjjmddjaaGreatDoor.fnTopBounds
open Go.ChangeShapes Go.WideShapes Go.ChangeAt Go.RowKit
theorem card:Rows.TopBoundsCardSaid :=
 Claim7.holds_tied_plain_at .later [] _ _ _ _ said (fun _ h=>by cases h) Wj (fun _ h=>by cases h) topBounds_row_tie rfl ⟨rfl,rfl⟩ (by kernel_rfl) rfl plain Wk
end Go.Proofs.YtefmpngjjmddjaaGreatDoor.fnTopBounds
