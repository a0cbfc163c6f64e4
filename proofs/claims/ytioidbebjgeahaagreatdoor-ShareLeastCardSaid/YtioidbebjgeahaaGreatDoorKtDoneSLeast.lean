/- ShareLeast: the statement. -/
import Derived.Test.YtioidbebjgeahaaGreatDoorKtA
import Derived.Test.YtioidbebjgeahaaGreatDoorKtB
import Derived.Test.YtioidbebjgeahaaGreatDoorKtC
import Derived.Test.YtioidbebjgeahaaGreatDoorKtD
import Derived.Test.YtioidbebjgeahaaGreatDoorKtE
import Derived.Test.YtioidbebjgeahaaGreatDoorKtF
import Derived.Test.YtioidbebjgeahaaGreatDoorKtG
import Derived.Test.YtioidbebjgeahaaGreatDoorKtH
import Derived.Test.YtioidbebjgeahaaGreatDoorKtI
import Derived.Test.YtioidbebjgeahaaGreatDoorKtL
import Derived.Test.YtioidbebjgeahaaGreatDoorKtZJ
import Derived.Test.YtioidbebjgeahaaGreatDoorKtZK
import Derived.Test.YtioidbebjgeahaaGreatDoorKtZL
import Derived.Test.YtioidbebjgeahaaGreatDoorKtZM
import Derived.Test.YtioidbebjgeahaaGreatDoorKtZN
import Derived.Test.YtioidbebjgeahaaGreatDoorKtZO
import Derived.Test.YtioidbebjgeahaaGreatDoorKtZP
import Derived.Test.YtioidbebjgeahaaGreatDoorKtZQ
import Derived.Test.YtioidbebjgeahaaGreatDoorKtZR
import Derived.Test.YtioidbebjgeahaaGreatDoorKtZS
namespace Go.Proofs.YtioidbebjgeahaaGreatDoor.fnShareLeast
open Go.ChangeShapes Go.WideShapes Go.ChangeAt Go.RowKit
theorem card:Rows.ShareLeastCardSaid :=
 Claim7.holds_tied_plain_at .later [] _ _ _ _ said (fun _ h=>by cases h) wf_text (fun _ h=>by cases h) shareLeast_row_tie rfl ⟨rfl,rfl⟩ (by kernel_rfl) rfl plain goes_by
end Go.Proofs.YtioidbebjgeahaaGreatDoor.fnShareLeast
