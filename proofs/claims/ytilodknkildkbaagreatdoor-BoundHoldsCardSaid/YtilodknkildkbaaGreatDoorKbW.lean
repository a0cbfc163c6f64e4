/- Texts that the proof needs: DoneBHoldsB. -/
import Derived.Test.YtilodknkildkbaaGreatDoorKbA
import Derived.Test.YtilodknkildkbaaGreatDoorKbB
import Derived.Test.YtilodknkildkbaaGreatDoorKbC
import Derived.Test.YtilodknkildkbaaGreatDoorKbD
import Derived.Test.YtilodknkildkbaaGreatDoorKbE
import Derived.Test.YtilodknkildkbaaGreatDoorKbF
import Derived.Test.YtilodknkildkbaaGreatDoorKbG
import Derived.Test.YtilodknkildkbaaGreatDoorKbH
import Derived.Test.YtilodknkildkbaaGreatDoorKbI
import Derived.Test.YtilodknkildkbaaGreatDoorKbJ
import Derived.Test.YtilodknkildkbaaGreatDoorKbK
import Derived.Test.YtilodknkildkbaaGreatDoorKbN
import Derived.Test.YtilodknkildkbaaGreatDoorKbR
import Derived.Test.YtilodknkildkbaaGreatDoorKbS
import Derived.Test.YtilodknkildkbaaGreatDoorKbT
import Derived.Test.YtilodknkildkbaaGreatDoorKbU
import Derived.Test.YtilodknkildkbaaGreatDoorKbV
namespace Go.Proofs.YtilodknkildkbaaGreatDoor.fnBoundHolds
open Go.ChangeShapes Go.WideShapes Go.ChangeAt Go.RowKit
theorem said:Rows.BoundHoldsSaid :=
 OpenClaim.holds_of_cond 4 Tryz.f4 rfl rfl rfl rfl rfl rfl rfl ⟨rfl,rfl,rfl,rfl,rfl⟩ rfl rfl rfl rfl rfl (by kernel_rfl) Tryz.func4 closed
  (of_decide_eq_true (by kernel_rfl)) (by unfold Func.isWrapper;first | (rw[if_pos (by decide +kernel)];kernel_rfl) | (rw[if_neg (by decide +kernel)];exact⟨rfl,rfl⟩))
  (fun os started H enc _ F=>by rw[OpenClaim.pre_eq_preRow];exact lifted os started H enc F)
end Go.Proofs.YtilodknkildkbaaGreatDoor.fnBoundHolds
