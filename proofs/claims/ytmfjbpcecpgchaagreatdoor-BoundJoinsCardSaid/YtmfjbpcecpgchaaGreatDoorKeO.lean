/- Texts that the proof needs: DoneBJoinsJ. -/
import Derived.Test.YtmfjbpcecpgchaaGreatDoorKeM
import Derived.Test.YtmfjbpcecpgchaaGreatDoorKeN
namespace Go.Proofs.YtmfjbpcecpgchaaGreatDoor.fnBoundJoins
open Go.ChangeShapes Go.WideShapes Go.ChangeAt Go.RowKit
theorem k10:(Rows.boundJoinsRow.inPlace==Tryz.pinned.checked.prog.inPlace 3)=true:=by kernel_rfl
theorem k11:(Rows.boundJoinsRow.unfollowed==Tryz.pinned.checked.prog.unfollowed 3)=true:=by kernel_rfl
theorem k12:(Rows.boundJoinsRow.recurses==Tryz.pinned.checked.prog.recurses 3)=true:=by kernel_rfl
theorem k13:(Rows.boundJoinsRow.named==Tryz.pinned.checked.prog.varsNamed 3)=true:=by kernel_rfl
theorem closed:joinedFacts Tryz.pinned.checked.prog 3 Tryz.f3 (OpenSpec.ofChange Rows.boundJoinsSpec).bare Rows.boundJoinsRow=true:=by
 unfold joinedFacts;simp only[yI];refine⟨⟨⟨⟨⟨⟨⟨⟨⟨⟨⟨⟨⟨⟨⟨⟨⟨⟨⟨⟨⟨⟨⟨⟨⟨⟨⟨⟨⟨⟨⟨?_,?_⟩,?_⟩,?_⟩,?_⟩,?_⟩,?_⟩,?_⟩,?_⟩,?_⟩,?_⟩,?_⟩,?_⟩,?_⟩,?_⟩,?_⟩,?_⟩,?_⟩,?_⟩,?_⟩,?_⟩,?_⟩,?_⟩,?_⟩,?_⟩,?_⟩,?_⟩,?_⟩,?_⟩,?_⟩,?_⟩,?_⟩
 .kernel_rfl
 .exact Nt.Tv
 .exact Nt.NK
 .kernel_rfl
 .kernel_rfl
 .kernel_rfl
 .kernel_rfl
 .kernel_rfl
 .kernel_rfl
 .exact k10
 .exact k11
 .exact k12
 .exact k13
 .kernel_rfl
 .kernel_rfl
 .kernel_rfl
 .kernel_rfl
 .kernel_rfl
 .kernel_rfl
 .kernel_rfl
 .kernel_rfl
 .kernel_rfl
 .exact Nt.NL
 .kernel_rfl
 .exact Nt.LR
 .exact Nt.Qp
 .exact Nt.LS
 .kernel_rfl
 .kernel_rfl
 .kernel_rfl
 .kernel_rfl
 kernel_rfl
end Go.Proofs.YtmfjbpcecpgchaaGreatDoor.fnBoundJoins
