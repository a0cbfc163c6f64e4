/- Texts that the proof needs: WrapJ. -/
import Derived.Test.YtilodknkildkbaaGreatDoorKbA
import Derived.Test.YtilodknkildkbaaGreatDoorKbB
namespace Go.Proofs.YtilodknkildkbaaGreatDoor
open Go.ChangeShapes Go.WideShapes Go.ChangeAt Go.RowKit
namespace Nt
theorem FR:laidOutB Tryz.pinned.checked.prog=true:=by kernel_rfl
theorem Eq:mapsRowed Tryz.pinned.checked.prog=true:=by kernel_rfl
theorem D7:Tryz.pinned.checked.prog.stopsHeard=true:=by kernel_rfl
theorem ET:Tryz.pinned.checked.prog.mayEnter=true:=by kernel_rfl
theorem D8:(Rows.boundFewerRow.lifted==Tryz.pinned.checked.prog.liftsFinal)=true:=by kernel_rfl
theorem Er:(Rows.boundFewerRow.plainKeys==Tryz.pinned.checked.prog.plainKeys)=true:=by kernel_rfl
end Nt
end Go.Proofs.YtilodknkildkbaaGreatDoor
