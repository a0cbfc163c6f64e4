/- Texts that the proof needs: DoneSApprJ. -/
import Derived.Test.YtioidbebjgeahaaGreatDoorKtA
import Derived.Test.YtioidbebjgeahaaGreatDoorKtB
import Derived.Test.YtioidbebjgeahaaGreatDoorKtC
import Derived.Test.YtioidbebjgeahaaGreatDoorKtD
import Derived.Test.YtioidbebjgeahaaGreatDoorKtE
import Derived.Test.YtioidbebjgeahaaGreatDoorKtF
import Derived.Test.YtioidbebjgeahaaGreatDoorKtG
import Derived.Test.YtioidbebjgeahaaGreatDoorKtH
import Derived.Test.YtioidbebjgeahaaGreatDoorKtI
import Derived.Test.YtioidbebjgeahaaGreatDoorKtL
import Derived.Test.YtioidbebjgeahaaGreatDoorKtP
import Derived.Test.YtioidbebjgeahaaGreatDoorKtQ
namespace Go.Proofs.YtioidbebjgeahaaGreatDoor.fnShareApproaches
open Go.ChangeShapes Go.WideShapes Go.ChangeAt Go.RowKit
theorem k10:(Rows.shareApproachesRow.inPlace==Tryz.pinned.checked.prog.inPlace 8)=true:=by kernel_rfl
theorem k11:(Rows.shareApproachesRow.unfollowed==Tryz.pinned.checked.prog.unfollowed 8)=true:=by kernel_rfl
theorem k12:(Rows.shareApproachesRow.recurses==Tryz.pinned.checked.prog.recurses 8)=true:=by kernel_rfl
theorem k13:(Rows.shareApproachesRow.named==Tryz.pinned.checked.prog.varsNamed 8)=true:=by kernel_rfl
theorem closed:joinedFacts Tryz.pinned.checked.prog 8 Tryz.f8 (OpenSpec.ofChange Rows.shareApproachesSpec).bare Rows.shareApproachesRow=true:=by
 unfold joinedFacts;simp only[Bool.and_eq_true];refine⟨⟨⟨⟨⟨⟨⟨⟨⟨⟨⟨⟨⟨⟨⟨⟨⟨⟨⟨⟨⟨⟨⟨⟨⟨⟨⟨⟨⟨⟨⟨?_,?_⟩,?_⟩,?_⟩,?_⟩,?_⟩,?_⟩,?_⟩,?_⟩,?_⟩,?_⟩,?_⟩,?_⟩,?_⟩,?_⟩,?_⟩,?_⟩,?_⟩,?_⟩,?_⟩,?_⟩,?_⟩,?_⟩,?_⟩,?_⟩,?_⟩,?_⟩,?_⟩,?_⟩,?_⟩,?_⟩,?_⟩
 · kernel_rfl
 · exact Nt.laid_out
 · exact Nt.maps_rowed
 · kernel_rfl
 · kernel_rfl
 · kernel_rfl
 · kernel_rfl
 · kernel_rfl
 · kernel_rfl
 · exact k10
 · exact k11
 · exact k12
 · exact k13
 · kernel_rfl
 · kernel_rfl
 · kernel_rfl
 · kernel_rfl
 · kernel_rfl
 · kernel_rfl
 · kernel_rfl
 · kernel_rfl
 · kernel_rfl
 · exact Nt.plain_keys
 · kernel_rfl
 · exact Nt.stops_heard
 · exact Nt.may_enter
 · exact Nt.lifts_final
 · kernel_rfl
 · kernel_rfl
 · kernel_rfl
 · kernel_rfl
 · kernel_rfl
end Go.Proofs.YtioidbebjgeahaaGreatDoor.fnShareApproaches
