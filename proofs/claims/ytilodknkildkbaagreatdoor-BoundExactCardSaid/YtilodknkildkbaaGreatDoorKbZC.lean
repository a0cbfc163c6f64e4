/- Texts that the proof needs: DoneBExactB. -/
import Derived.Test.YtilodknkildkbaaGreatDoorKbA
import Derived.Test.YtilodknkildkbaaGreatDoorKbB
import Derived.Test.YtilodknkildkbaaGreatDoorKbC
import Derived.Test.YtilodknkildkbaaGreatDoorKbD
import Derived.Test.YtilodknkildkbaaGreatDoorKbE
import Derived.Test.YtilodknkildkbaaGreatDoorKbF
import Derived.Test.YtilodknkildkbaaGreatDoorKbG
import Derived.Test.YtilodknkildkbaaGreatDoorKbH
import Derived.Test.YtilodknkildkbaaGreatDoorKbI
import Derived.Test.YtilodknkildkbaaGreatDoorKbJ
import Derived.Test.YtilodknkildkbaaGreatDoorKbK
import Derived.Test.YtilodknkildkbaaGreatDoorKbN
import Derived.Test.YtilodknkildkbaaGreatDoorKbY
import Derived.Test.YtilodknkildkbaaGreatDoorKbZ
import Derived.Test.YtilodknkildkbaaGreatDoorKbZA
import Derived.Test.YtilodknkildkbaaGreatDoorKbZB
namespace Go.Proofs.YtilodknkildkbaaGreatDoor.fnBoundExact
open Go.ChangeShapes Go.WideShapes Go.ChangeAt Go.RowKit
theorem said:Rows.BoundExactSaid :=
 OpenClaim.holds_of_cond 5 Tryz.f5 rfl rfl rfl rfl rfl rfl rfl ⟨rfl,rfl,rfl,rfl,rfl⟩ rfl rfl rfl rfl rfl (by kernel_rfl) Tryz.func5 closed
  (of_decide_eq_true (by kernel_rfl)) (by unfold Func.isWrapper;first | (rw[if_pos (by decide +kernel)];kernel_rfl) | (rw[if_neg (by decide +kernel)];exact⟨rfl,rfl⟩))
  (fun os started H enc _ F=>by rw[OpenClaim.pre_eq_preRow];exact lifted os started H enc F)
end Go.Proofs.YtilodknkildkbaaGreatDoor.fnBoundExact
