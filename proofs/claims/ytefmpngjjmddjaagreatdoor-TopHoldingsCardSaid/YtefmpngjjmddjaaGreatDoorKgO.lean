/- Parts of the proof. -/
import Derived.Test.YtefmpngjjmddjaaGreatDoorKgB
open Go.Proofs.Tryz
namespace Go.Proofs.YtefmpngjjmddjaaGreatDoor
open Go.ChangeShapes Go.WideShapes Go.ChangeAt Go.RowKit
namespace Nt
theorem TE:laidOutB Tryz.pinned.checked.prog=true:=by kernel_rfl
theorem NK:mapsRowed Tryz.pinned.checked.prog=true:=by kernel_rfl
theorem Md:Tryz.pinned.checked.prog.stopsHeard=true:=by kernel_rfl
theorem Qz:Tryz.pinned.checked.prog.mayEnter=true:=by kernel_rfl
theorem Me:(Rows.topBoundsRow.lifted==Tryz.pinned.checked.prog.liftsFinal)=true:=by kernel_rfl
theorem NL:(Rows.topBoundsRow.plainKeys==Tryz.pinned.checked.prog.plainKeys)=true:=by kernel_rfl
end Nt
end Go.Proofs.YtefmpngjjmddjaaGreatDoor
