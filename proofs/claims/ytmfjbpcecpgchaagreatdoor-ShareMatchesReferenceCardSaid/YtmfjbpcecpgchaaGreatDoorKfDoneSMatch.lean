/- ShareMatchesReference: the statement. -/
import Derived.Test.YtmfjbpcecpgchaaGreatDoorKfO
open Go.Proofs.Tryz
namespace Go.Proofs.YtmfjbpcecpgchaaGreatDoor.fnShareMatchesReference
open Go.ChangeShapes Go.WideShapes Go.ChangeAt Go.RowKit
theorem card:Rows.ShareMatchesReferenceCardSaid :=
 Claim7.holds_tied_plain_at .later [] _ _ _ _ said (fun _ h=>by cases h) UK (fun _ h=>by cases h) shareMatchesReference_row_tie rfl ⟨rfl,rfl⟩ (by kernel_rfl) rfl plain UL
end Go.Proofs.YtmfjbpcecpgchaaGreatDoor.fnShareMatchesReference
