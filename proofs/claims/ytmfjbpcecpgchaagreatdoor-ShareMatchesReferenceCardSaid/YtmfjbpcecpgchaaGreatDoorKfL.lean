/- Parts of the proof. -/
import Derived.Test.YtmfjbpcecpgchaaGreatDoorKfB
open Go.Proofs.Tryz
namespace Go.Proofs.YtmfjbpcecpgchaaGreatDoor
open Go.ChangeShapes Go.WideShapes Go.ChangeAt Go.RowKit
namespace Nt
theorem T8:laidOutB Tryz.pinned.checked.prog=true:=by kernel_rfl
theorem O1:mapsRowed Tryz.pinned.checked.prog=true:=by kernel_rfl
theorem Mq:Tryz.pinned.checked.prog.stopsHeard=true:=by kernel_rfl
theorem QR:Tryz.pinned.checked.prog.mayEnter=true:=by kernel_rfl
theorem Mr:(Rows.boundJoinsRow.lifted==Tryz.pinned.checked.prog.liftsFinal)=true:=by kernel_rfl
theorem O2:(Rows.boundJoinsRow.plainKeys==Tryz.pinned.checked.prog.plainKeys)=true:=by kernel_rfl
end Nt
end Go.Proofs.YtmfjbpcecpgchaaGreatDoor
