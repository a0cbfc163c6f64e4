/- BoundHolds: the statement. -/
import Derived.Test.YtilodknkildkbaaGreatDoorKbA
import Derived.Test.YtilodknkildkbaaGreatDoorKbB
import Derived.Test.YtilodknkildkbaaGreatDoorKbC
import Derived.Test.YtilodknkildkbaaGreatDoorKbD
import Derived.Test.YtilodknkildkbaaGreatDoorKbE
import Derived.Test.YtilodknkildkbaaGreatDoorKbF
import Derived.Test.YtilodknkildkbaaGreatDoorKbG
import Derived.Test.YtilodknkildkbaaGreatDoorKbH
import Derived.Test.YtilodknkildkbaaGreatDoorKbI
import Derived.Test.YtilodknkildkbaaGreatDoorKbJ
import Derived.Test.YtilodknkildkbaaGreatDoorKbK
import Derived.Test.YtilodknkildkbaaGreatDoorKbN
import Derived.Test.YtilodknkildkbaaGreatDoorKbR
import Derived.Test.YtilodknkildkbaaGreatDoorKbS
import Derived.Test.YtilodknkildkbaaGreatDoorKbT
import Derived.Test.YtilodknkildkbaaGreatDoorKbU
import Derived.Test.YtilodknkildkbaaGreatDoorKbV
import Derived.Test.YtilodknkildkbaaGreatDoorKbW
import Derived.Test.YtilodknkildkbaaGreatDoorKbX
namespace Go.Proofs.YtilodknkildkbaaGreatDoor.fnBoundHolds
open Go.ChangeShapes Go.WideShapes Go.ChangeAt Go.RowKit
theorem card:Rows.BoundHoldsCardSaid :=
 Claim7.holds_tied_plain_at .later [] _ _ _ _ said (fun _ h=>by cases h) Et (fun _ h=>by cases h) boundHolds_row_tie rfl ⟨rfl,rfl⟩ (by kernel_rfl) rfl plain Eu
end Go.Proofs.YtilodknkildkbaaGreatDoor.fnBoundHolds
