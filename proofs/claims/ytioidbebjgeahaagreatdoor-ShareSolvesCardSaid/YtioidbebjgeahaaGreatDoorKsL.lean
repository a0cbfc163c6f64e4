/- Texts that the proof needs: DoneSSolvesB. -/
import Derived.Test.YtioidbebjgeahaaGreatDoorKsA
import Derived.Test.YtioidbebjgeahaaGreatDoorKsB
import Derived.Test.YtioidbebjgeahaaGreatDoorKsC
import Derived.Test.YtioidbebjgeahaaGreatDoorKsD
import Derived.Test.YtioidbebjgeahaaGreatDoorKsE
import Derived.Test.YtioidbebjgeahaaGreatDoorKsF
import Derived.Test.YtioidbebjgeahaaGreatDoorKsG
import Derived.Test.YtioidbebjgeahaaGreatDoorKsH
import Derived.Test.YtioidbebjgeahaaGreatDoorKsI
import Derived.Test.YtioidbebjgeahaaGreatDoorKsJ
import Derived.Test.YtioidbebjgeahaaGreatDoorKsK
namespace Go.Proofs.YtioidbebjgeahaaGreatDoor.fnShareSolves
open Go.ChangeShapes Go.WideShapes Go.ChangeAt Go.RowKit
theorem said : Rows.ShareSolvesSaid :=
 OpenClaim.holds_of_cond 5 Tryz.f5 rfl rfl rfl rfl rfl rfl rfl ⟨rfl,rfl,rfl,rfl,rfl⟩ rfl rfl rfl rfl rfl (by kernel_rfl) Tryz.func5 closed
  (of_decide_eq_true (by kernel_rfl)) (by unfold Func.isWrapper;first | (rw [if_pos (by decide +kernel)];kernel_rfl) | (rw [if_neg (by decide +kernel)];exact ⟨rfl,rfl⟩))
  (fun os started H enc _ F => by rw [OpenClaim.pre_eq_preRow];exact lifted os started H enc F)
end Go.Proofs.YtioidbebjgeahaaGreatDoor.fnShareSolves
