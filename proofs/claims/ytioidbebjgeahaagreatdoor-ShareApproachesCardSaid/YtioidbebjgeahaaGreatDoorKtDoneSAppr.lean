/- ShareApproaches: the statement. -/
import Derived.Test.YtioidbebjgeahaaGreatDoorKtA
import Derived.Test.YtioidbebjgeahaaGreatDoorKtB
import Derived.Test.YtioidbebjgeahaaGreatDoorKtC
import Derived.Test.YtioidbebjgeahaaGreatDoorKtD
import Derived.Test.YtioidbebjgeahaaGreatDoorKtE
import Derived.Test.YtioidbebjgeahaaGreatDoorKtF
import Derived.Test.YtioidbebjgeahaaGreatDoorKtG
import Derived.Test.YtioidbebjgeahaaGreatDoorKtH
import Derived.Test.YtioidbebjgeahaaGreatDoorKtI
import Derived.Test.YtioidbebjgeahaaGreatDoorKtL
import Derived.Test.YtioidbebjgeahaaGreatDoorKtP
import Derived.Test.YtioidbebjgeahaaGreatDoorKtQ
import Derived.Test.YtioidbebjgeahaaGreatDoorKtR
import Derived.Test.YtioidbebjgeahaaGreatDoorKtS
import Derived.Test.YtioidbebjgeahaaGreatDoorKtT
namespace Go.Proofs.YtioidbebjgeahaaGreatDoor.fnShareApproaches
open Go.ChangeShapes Go.WideShapes Go.ChangeAt Go.RowKit
theorem card:Rows.ShareApproachesCardSaid :=
 Claim7.holds_tied_plain_at .later [] _ _ _ _ said (fun _ h=>by cases h) wf_text (fun _ h=>by cases h) shareApproaches_row_tie rfl ⟨rfl,rfl⟩ (by kernel_rfl) rfl plain goes_by
end Go.Proofs.YtioidbebjgeahaaGreatDoor.fnShareApproaches
