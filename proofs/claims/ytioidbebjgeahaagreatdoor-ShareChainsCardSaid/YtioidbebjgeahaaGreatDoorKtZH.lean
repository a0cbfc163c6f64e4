/- Texts that the proof needs: DoneSChainsB. -/
import Derived.Test.YtioidbebjgeahaaGreatDoorKtA
import Derived.Test.YtioidbebjgeahaaGreatDoorKtB
import Derived.Test.YtioidbebjgeahaaGreatDoorKtC
import Derived.Test.YtioidbebjgeahaaGreatDoorKtD
import Derived.Test.YtioidbebjgeahaaGreatDoorKtE
import Derived.Test.YtioidbebjgeahaaGreatDoorKtF
import Derived.Test.YtioidbebjgeahaaGreatDoorKtG
import Derived.Test.YtioidbebjgeahaaGreatDoorKtH
import Derived.Test.YtioidbebjgeahaaGreatDoorKtI
import Derived.Test.YtioidbebjgeahaaGreatDoorKtL
import Derived.Test.YtioidbebjgeahaaGreatDoorKtU
import Derived.Test.YtioidbebjgeahaaGreatDoorKtZB
import Derived.Test.YtioidbebjgeahaaGreatDoorKtZC
import Derived.Test.YtioidbebjgeahaaGreatDoorKtZD
import Derived.Test.YtioidbebjgeahaaGreatDoorKtZE
import Derived.Test.YtioidbebjgeahaaGreatDoorKtZF
import Derived.Test.YtioidbebjgeahaaGreatDoorKtZG
namespace Go.Proofs.YtioidbebjgeahaaGreatDoor.fnShareChains
open Go.ChangeShapes Go.WideShapes Go.ChangeAt Go.RowKit
theorem said:Rows.ShareChainsSaid :=
 OpenClaim.holds_of_cond 4 Tryz.f4 rfl rfl rfl rfl rfl rfl rfl ⟨rfl,rfl,rfl,rfl,rfl⟩ rfl rfl rfl rfl rfl (by kernel_rfl) Tryz.func4 closed
  (of_decide_eq_true (by kernel_rfl)) (by unfold Func.isWrapper;first | (rw[if_pos (by decide +kernel)];kernel_rfl) | (rw[if_neg (by decide +kernel)];exact⟨rfl,rfl⟩))
  (fun os started H enc _ F=>by rw[OpenClaim.pre_eq_preRow];exact lifted os started H enc F)
end Go.Proofs.YtioidbebjgeahaaGreatDoor.fnShareChains
