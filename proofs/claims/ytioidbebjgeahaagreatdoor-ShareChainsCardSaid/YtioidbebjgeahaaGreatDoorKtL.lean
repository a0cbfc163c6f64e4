/- Texts that the proof needs: WrapJ. -/
import Derived.Test.YtioidbebjgeahaaGreatDoorKtA
import Derived.Test.YtioidbebjgeahaaGreatDoorKtB
namespace Go.Proofs.YtioidbebjgeahaaGreatDoor
open Go.ChangeShapes Go.WideShapes Go.ChangeAt Go.RowKit
namespace Nt
theorem laid_out:laidOutB Tryz.pinned.checked.prog=true:=by kernel_rfl
theorem maps_rowed:mapsRowed Tryz.pinned.checked.prog=true:=by kernel_rfl
theorem stops_heard:Tryz.pinned.checked.prog.stopsHeard=true:=by kernel_rfl
theorem may_enter:Tryz.pinned.checked.prog.mayEnter=true:=by kernel_rfl
theorem lifts_final:(Rows.shareSolvesRow.lifted==Tryz.pinned.checked.prog.liftsFinal)=true:=by kernel_rfl
theorem plain_keys:(Rows.shareSolvesRow.plainKeys==Tryz.pinned.checked.prog.plainKeys)=true:=by kernel_rfl
end Nt
end Go.Proofs.YtioidbebjgeahaaGreatDoor
