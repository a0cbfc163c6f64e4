/- Texts that the proof needs: WrapJ. -/
import Derived.Test.YtmfjbpcecpgchaaGreatDoorKeB
namespace Go.Proofs.YtmfjbpcecpgchaaGreatDoor
open Go.ChangeShapes Go.WideShapes Go.ChangeAt Go.RowKit
namespace Nt
theorem Tv:laidOutB Tryz.pinned.checked.prog=true:=by kernel_rfl
theorem NK:mapsRowed Tryz.pinned.checked.prog=true:=by kernel_rfl
theorem LR:Tryz.pinned.checked.prog.stopsHeard=true:=by kernel_rfl
theorem Qp:Tryz.pinned.checked.prog.mayEnter=true:=by kernel_rfl
theorem LS:(Rows.boundJoinsRow.lifted==Tryz.pinned.checked.prog.liftsFinal)=true:=by kernel_rfl
theorem NL:(Rows.boundJoinsRow.plainKeys==Tryz.pinned.checked.prog.plainKeys)=true:=by kernel_rfl
end Nt
end Go.Proofs.YtmfjbpcecpgchaaGreatDoor
