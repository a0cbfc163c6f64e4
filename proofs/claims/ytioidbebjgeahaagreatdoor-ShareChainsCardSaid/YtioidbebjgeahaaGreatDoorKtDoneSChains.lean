/- ShareChains: the statement. -/
import Derived.Test.YtioidbebjgeahaaGreatDoorKtA
import Derived.Test.YtioidbebjgeahaaGreatDoorKtB
import Derived.Test.YtioidbebjgeahaaGreatDoorKtC
import Derived.Test.YtioidbebjgeahaaGreatDoorKtD
import Derived.Test.YtioidbebjgeahaaGreatDoorKtE
import Derived.Test.YtioidbebjgeahaaGreatDoorKtF
import Derived.Test.YtioidbebjgeahaaGreatDoorKtG
import Derived.Test.YtioidbebjgeahaaGreatDoorKtH
import Derived.Test.YtioidbebjgeahaaGreatDoorKtI
import Derived.Test.YtioidbebjgeahaaGreatDoorKtL
import Derived.Test.YtioidbebjgeahaaGreatDoorKtU
import Derived.Test.YtioidbebjgeahaaGreatDoorKtZB
import Derived.Test.YtioidbebjgeahaaGreatDoorKtZC
import Derived.Test.YtioidbebjgeahaaGreatDoorKtZD
import Derived.Test.YtioidbebjgeahaaGreatDoorKtZE
import Derived.Test.YtioidbebjgeahaaGreatDoorKtZF
import Derived.Test.YtioidbebjgeahaaGreatDoorKtZG
import Derived.Test.YtioidbebjgeahaaGreatDoorKtZH
import Derived.Test.YtioidbebjgeahaaGreatDoorKtZI
namespace Go.Proofs.YtioidbebjgeahaaGreatDoor.fnShareChains
open Go.ChangeShapes Go.WideShapes Go.ChangeAt Go.RowKit
theorem card:Rows.ShareChainsCardSaid :=
 Claim7.holds_tied_plain_at .later [] _ _ _ _ said (fun _ h=>by cases h) wf_text (fun _ h=>by cases h) shareChains_row_tie rfl ⟨rfl,rfl⟩ (by kernel_rfl) rfl plain goes_by
end Go.Proofs.YtioidbebjgeahaaGreatDoor.fnShareChains
