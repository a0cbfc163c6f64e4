/- BoundFewer: the statement. -/
import Derived.Test.YtilodknkildkbaaGreatDoorKbA
import Derived.Test.YtilodknkildkbaaGreatDoorKbB
import Derived.Test.YtilodknkildkbaaGreatDoorKbC
import Derived.Test.YtilodknkildkbaaGreatDoorKbD
import Derived.Test.YtilodknkildkbaaGreatDoorKbE
import Derived.Test.YtilodknkildkbaaGreatDoorKbF
import Derived.Test.YtilodknkildkbaaGreatDoorKbG
import Derived.Test.YtilodknkildkbaaGreatDoorKbH
import Derived.Test.YtilodknkildkbaaGreatDoorKbI
import Derived.Test.YtilodknkildkbaaGreatDoorKbJ
import Derived.Test.YtilodknkildkbaaGreatDoorKbK
import Derived.Test.YtilodknkildkbaaGreatDoorKbN
import Derived.Test.YtilodknkildkbaaGreatDoorKbY
import Derived.Test.YtilodknkildkbaaGreatDoorKbZE
import Derived.Test.YtilodknkildkbaaGreatDoorKbZF
import Derived.Test.YtilodknkildkbaaGreatDoorKbZG
import Derived.Test.YtilodknkildkbaaGreatDoorKbZH
import Derived.Test.YtilodknkildkbaaGreatDoorKbZI
import Derived.Test.YtilodknkildkbaaGreatDoorKbZJ
namespace Go.Proofs.YtilodknkildkbaaGreatDoor.fnBoundFewer
open Go.ChangeShapes Go.WideShapes Go.ChangeAt Go.RowKit
theorem card:Rows.BoundFewerCardSaid :=
 Claim7.holds_tied_plain_at .later [] _ _ _ _ said (fun _ h=>by cases h) Et (fun _ h=>by cases h) boundFewer_row_tie rfl ⟨rfl,rfl⟩ (by kernel_rfl) rfl plain Eu
end Go.Proofs.YtilodknkildkbaaGreatDoor.fnBoundFewer
