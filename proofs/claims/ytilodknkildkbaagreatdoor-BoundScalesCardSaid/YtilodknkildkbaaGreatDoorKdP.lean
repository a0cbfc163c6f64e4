/- Texts that the proof needs: WrapJ. -/
import Derived.Test.YtilodknkildkbaaGreatDoorKdA
import Derived.Test.YtilodknkildkbaaGreatDoorKdB
namespace Go.Proofs.YtilodknkildkbaaGreatDoor
open Go.ChangeShapes Go.WideShapes Go.ChangeAt Go.RowKit
namespace Nt
theorem Tc:laidOutB Tryz.pinned.checked.prog=true:=by kernel_rfl
theorem Nu:mapsRowed Tryz.pinned.checked.prog=true:=by kernel_rfl
theorem L6:Tryz.pinned.checked.prog.stopsHeard=true:=by kernel_rfl
theorem PS:Tryz.pinned.checked.prog.mayEnter=true:=by kernel_rfl
theorem L7:(Rows.boundFewerRow.lifted==Tryz.pinned.checked.prog.liftsFinal)=true:=by kernel_rfl
theorem Nv:(Rows.boundFewerRow.plainKeys==Tryz.pinned.checked.prog.plainKeys)=true:=by kernel_rfl
end Nt
end Go.Proofs.YtilodknkildkbaaGreatDoor
