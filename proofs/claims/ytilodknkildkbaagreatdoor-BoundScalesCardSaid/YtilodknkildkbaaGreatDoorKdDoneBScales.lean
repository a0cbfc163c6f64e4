/- BoundScales: the statement. -/
import Derived.Test.YtilodknkildkbaaGreatDoorKdS
namespace Go.Proofs.YtilodknkildkbaaGreatDoor.fnBoundScales
open Go.ChangeShapes Go.WideShapes Go.ChangeAt Go.RowKit
theorem card:Rows.BoundScalesCardSaid :=
 Claim7.holds_tied_plain_at .later [] _ _ _ _ said (fun _ h=>by cases h) Uw (fun _ h=>by cases h) boundScales_row_tie rfl ⟨rfl,rfl⟩ (by kernel_rfl) rfl plain Ux
end Go.Proofs.YtilodknkildkbaaGreatDoor.fnBoundScales
