/- Parts of the proof. -/
import Derived.Test.YtefmpngjjmddjaaGreatDoorKgP
open Go.Proofs.Tryz
namespace Go.Proofs.YtefmpngjjmddjaaGreatDoor.fnTopHoldings
open Go.ChangeShapes Go.WideShapes Go.ChangeAt Go.RowKit
theorem said:Rows.TopHoldingsSaid :=
 OpenClaim.holds_of_cond 3 Tryz.f3 rfl rfl rfl rfl rfl rfl rfl ⟨rfl,rfl,rfl,rfl,rfl⟩ rfl rfl rfl rfl rfl (by kernel_rfl) func3 closed
  (zL (by kernel_rfl)) (by unfold Func.isWrapper;first|(rw[zD (by decide +kernel)];kernel_rfl)|(rw[zC (by decide +kernel)];exact⟨rfl,rfl⟩))
  (fun os started H enc _ F=>by rw[OpenClaim.pre_eq_preRow];exact lifted os started H enc F)
end Go.Proofs.YtefmpngjjmddjaaGreatDoor.fnTopHoldings
