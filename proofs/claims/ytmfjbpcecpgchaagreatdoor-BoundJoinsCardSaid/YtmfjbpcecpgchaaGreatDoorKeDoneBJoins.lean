/- BoundJoins: the statement. -/
import Derived.Test.YtmfjbpcecpgchaaGreatDoorKeQ
namespace Go.Proofs.YtmfjbpcecpgchaaGreatDoor.fnBoundJoins
open Go.ChangeShapes Go.WideShapes Go.ChangeAt Go.RowKit
theorem card:Rows.BoundJoinsCardSaid :=
 Claim7.holds_tied_plain_at .later [] _ _ _ _ said (fun _ h=>by cases h) UE (fun _ h=>by cases h) boundJoins_row_tie rfl ⟨rfl,rfl⟩ (by kernel_rfl) rfl plain UF
end Go.Proofs.YtmfjbpcecpgchaaGreatDoor.fnBoundJoins
