/- Parts of the proof. -/
import Derived.Test.YtefmpngjjmddjaaGreatDoorKhB
open Go.Proofs.Tryz
namespace Go.Proofs.YtefmpngjjmddjaaGreatDoor
open Go.ChangeShapes Go.WideShapes Go.ChangeAt Go.RowKit
namespace Nt
theorem UJ:laidOutB Tryz.pinned.checked.prog=true:=by kernel_rfl
theorem O7:mapsRowed Tryz.pinned.checked.prog=true:=by kernel_rfl
theorem MM:Tryz.pinned.checked.prog.stopsHeard=true:=by kernel_rfl
theorem Rz:Tryz.pinned.checked.prog.mayEnter=true:=by kernel_rfl
theorem MN:(Rows.topBoundsRow.lifted==Tryz.pinned.checked.prog.liftsFinal)=true:=by kernel_rfl
theorem O8:(Rows.topBoundsRow.plainKeys==Tryz.pinned.checked.prog.plainKeys)=true:=by kernel_rfl
end Nt
end Go.Proofs.YtefmpngjjmddjaaGreatDoor
