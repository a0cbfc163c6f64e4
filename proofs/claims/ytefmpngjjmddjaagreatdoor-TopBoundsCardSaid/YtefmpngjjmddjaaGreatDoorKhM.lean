/- Parts of the proof. -/
import Derived.Test.YtefmpngjjmddjaaGreatDoorKhL
open Go.Proofs.Tryz
namespace Go.Proofs.YtefmpngjjmddjaaGreatDoor.fnTopBounds
open Go.ChangeShapes Go.WideShapes Go.ChangeAt Go.RowKit
theorem said:Rows.TopBoundsSaid :=
 OpenClaim.holds_of_cond 4 Tryz.f4 rfl rfl rfl rfl rfl rfl rfl ⟨rfl,rfl,rfl,rfl,rfl⟩ rfl rfl rfl rfl rfl (by kernel_rfl) func4 closed
  (zL (by kernel_rfl)) (by unfold Func.isWrapper;first|(rw[zF (by decide +kernel)];kernel_rfl)|(rw[zE (by decide +kernel)];exact⟨rfl,rfl⟩))
  (fun os started H enc _ F=>by rw[OpenClaim.pre_eq_preRow];exact lifted os started H enc F)
end Go.Proofs.YtefmpngjjmddjaaGreatDoor.fnTopBounds
