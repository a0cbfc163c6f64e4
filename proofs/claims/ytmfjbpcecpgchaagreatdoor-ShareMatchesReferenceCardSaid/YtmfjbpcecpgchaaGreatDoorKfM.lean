/- Parts of the proof. -/
import Derived.Test.YtmfjbpcecpgchaaGreatDoorKfK
import Derived.Test.YtmfjbpcecpgchaaGreatDoorKfL
open Go.Proofs.Tryz
namespace Go.Proofs.YtmfjbpcecpgchaaGreatDoor.fnShareMatchesReference
open Go.ChangeShapes Go.WideShapes Go.ChangeAt Go.RowKit
theorem k10:(Rows.shareMatchesReferenceRow.inPlace==Tryz.pinned.checked.prog.inPlace 4)=true:=by kernel_rfl
theorem k11:(Rows.shareMatchesReferenceRow.unfollowed==Tryz.pinned.checked.prog.unfollowed 4)=true:=by kernel_rfl
theorem k12:(Rows.shareMatchesReferenceRow.recurses==Tryz.pinned.checked.prog.recurses 4)=true:=by kernel_rfl
theorem k13:(Rows.shareMatchesReferenceRow.named==Tryz.pinned.checked.prog.varsNamed 4)=true:=by kernel_rfl
theorem closed:joinedFacts Tryz.pinned.checked.prog 4 Tryz.f4 (OpenSpec.ofChange Rows.shareMatchesReferenceSpec).bare Rows.shareMatchesReferenceRow=true:=by
 unfold joinedFacts;simp only[yI];refine⟨⟨⟨⟨⟨⟨⟨⟨⟨⟨⟨⟨⟨⟨⟨⟨⟨⟨⟨⟨⟨⟨⟨⟨⟨⟨⟨⟨⟨⟨⟨?_,?_⟩,?_⟩,?_⟩,?_⟩,?_⟩,?_⟩,?_⟩,?_⟩,?_⟩,?_⟩,?_⟩,?_⟩,?_⟩,?_⟩,?_⟩,?_⟩,?_⟩,?_⟩,?_⟩,?_⟩,?_⟩,?_⟩,?_⟩,?_⟩,?_⟩,?_⟩,?_⟩,?_⟩,?_⟩,?_⟩,?_⟩
 .kernel_rfl
 .exact Nt.T8
 .exact Nt.O1
 .kernel_rfl
 .kernel_rfl
 .kernel_rfl
 .kernel_rfl
 .kernel_rfl
 .kernel_rfl
 .exact k10
 .exact k11
 .exact k12
 .exact k13
 .kernel_rfl
 .kernel_rfl
 .kernel_rfl
 .kernel_rfl
 .kernel_rfl
 .kernel_rfl
 .kernel_rfl
 .kernel_rfl
 .kernel_rfl
 .exact Nt.O2
 .kernel_rfl
 .exact Nt.Mq
 .exact Nt.QR
 .exact Nt.Mr
 .kernel_rfl
 .kernel_rfl
 .kernel_rfl
 .kernel_rfl
 kernel_rfl
end Go.Proofs.YtmfjbpcecpgchaaGreatDoor.fnShareMatchesReference
