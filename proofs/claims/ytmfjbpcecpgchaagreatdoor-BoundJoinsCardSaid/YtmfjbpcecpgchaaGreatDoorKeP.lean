/- Texts that the proof needs: DoneBJoinsB. -/
import Derived.Test.YtmfjbpcecpgchaaGreatDoorKeO
namespace Go.Proofs.YtmfjbpcecpgchaaGreatDoor.fnBoundJoins
open Go.ChangeShapes Go.WideShapes Go.ChangeAt Go.RowKit
theorem said:Rows.BoundJoinsSaid :=
 OpenClaim.holds_of_cond 3 Tryz.f3 rfl rfl rfl rfl rfl rfl rfl ⟨rfl,rfl,rfl,rfl,rfl⟩ rfl rfl rfl rfl rfl (by kernel_rfl) Tryz.func3 closed
  (zk (by kernel_rfl)) (by unfold Func.isWrapper;first|(rw[zG (by decide +kernel)];kernel_rfl)|(rw[zF (by decide +kernel)];exact⟨rfl,rfl⟩))
  (fun os started H enc _ F=>by rw[OpenClaim.pre_eq_preRow];exact lifted os started H enc F)
end Go.Proofs.YtmfjbpcecpgchaaGreatDoor.fnBoundJoins
