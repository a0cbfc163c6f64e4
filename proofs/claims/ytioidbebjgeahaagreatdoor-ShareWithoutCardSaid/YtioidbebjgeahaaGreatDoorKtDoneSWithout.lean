/- ShareWithout: the statement. -/
import Derived.Test.YtioidbebjgeahaaGreatDoorKtA
import Derived.Test.YtioidbebjgeahaaGreatDoorKtB
import Derived.Test.YtioidbebjgeahaaGreatDoorKtC
import Derived.Test.YtioidbebjgeahaaGreatDoorKtD
import Derived.Test.YtioidbebjgeahaaGreatDoorKtE
import Derived.Test.YtioidbebjgeahaaGreatDoorKtF
import Derived.Test.YtioidbebjgeahaaGreatDoorKtG
import Derived.Test.YtioidbebjgeahaaGreatDoorKtH
import Derived.Test.YtioidbebjgeahaaGreatDoorKtI
import Derived.Test.YtioidbebjgeahaaGreatDoorKtL
import Derived.Test.YtioidbebjgeahaaGreatDoorKtU
import Derived.Test.YtioidbebjgeahaaGreatDoorKtV
import Derived.Test.YtioidbebjgeahaaGreatDoorKtW
import Derived.Test.YtioidbebjgeahaaGreatDoorKtX
import Derived.Test.YtioidbebjgeahaaGreatDoorKtY
import Derived.Test.YtioidbebjgeahaaGreatDoorKtZ
import Derived.Test.YtioidbebjgeahaaGreatDoorKtZA
namespace Go.Proofs.YtioidbebjgeahaaGreatDoor.fnShareWithout
open Go.ChangeShapes Go.WideShapes Go.ChangeAt Go.RowKit
theorem card:Rows.ShareWithoutCardSaid :=
 Claim7.holds_tied_plain_at .later [] _ _ _ _ said (fun _ h=>by cases h) wf_text (fun _ h=>by cases h) shareWithout_row_tie rfl ⟨rfl,rfl⟩ (by kernel_rfl) rfl plain goes_by
end Go.Proofs.YtioidbebjgeahaaGreatDoor.fnShareWithout
