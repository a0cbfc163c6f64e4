/- ShareSolves: the statement. -/
import Derived.Test.YtioidbebjgeahaaGreatDoorKsA
import Derived.Test.YtioidbebjgeahaaGreatDoorKsB
import Derived.Test.YtioidbebjgeahaaGreatDoorKsC
import Derived.Test.YtioidbebjgeahaaGreatDoorKsD
import Derived.Test.YtioidbebjgeahaaGreatDoorKsE
import Derived.Test.YtioidbebjgeahaaGreatDoorKsF
import Derived.Test.YtioidbebjgeahaaGreatDoorKsG
import Derived.Test.YtioidbebjgeahaaGreatDoorKsH
import Derived.Test.YtioidbebjgeahaaGreatDoorKsI
import Derived.Test.YtioidbebjgeahaaGreatDoorKsJ
import Derived.Test.YtioidbebjgeahaaGreatDoorKsK
import Derived.Test.YtioidbebjgeahaaGreatDoorKsL
import Derived.Test.YtioidbebjgeahaaGreatDoorKsM
namespace Go.Proofs.YtioidbebjgeahaaGreatDoor.fnShareSolves
open Go.ChangeShapes Go.WideShapes Go.ChangeAt Go.RowKit
theorem card : Rows.ShareSolvesCardSaid :=
 Claim7.holds_tied_plain_at .later [] _ _ _ _ said (fun _ h => by cases h) wf_text (fun _ h => by cases h) shareSolves_row_tie rfl ⟨rfl,rfl⟩ (by kernel_rfl) rfl plain goes_by
end Go.Proofs.YtioidbebjgeahaaGreatDoor.fnShareSolves
