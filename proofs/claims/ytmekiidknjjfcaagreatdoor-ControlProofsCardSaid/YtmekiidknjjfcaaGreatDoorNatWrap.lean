/- From a row's list of laid variables to Env, and the witness's world. -/
import Derived.Test.YtmekiidknjjfcaaGreatDoorNatApi2
import Derived.Test.YtmekiidknjjfcaaGreatDoorCards
import Derived.Test.YtmekiidknjjfcaaGreatDoorTie
import Derived.ProofKit
import Derived.OpenShut
import Derived.Deep.DeepHandedRow
import Derived.Deep.DeepWitnessRowRef
import Derived.Deep.DeepLaidRun
import Derived.Lib.LaidTab
import Derived.Stop.LaidErr
import Derived.LaidMore
import Derived.LaidSub
namespace Go.Proofs.YtmekiidknjjfcaaGreatDoor
open Go.ChangeShapes Go.WideShapes Go.ChangeAt Go.RowKit Go.Shelf
namespace Nt

/-- The list that every row of this seat bears. -/
def laidL : List (String × DataW Unit) := Rows.controlRoundsRow.laid

theorem gt_tab : (Tryz.prog.globals[2]?).map (·.type) = some 186 := by kernel_rfl
theorem gt_syn : (Tryz.prog.globals[0]?).map (·.type) = some 91 := by kernel_rfl
theorem gt_rng : (Tryz.prog.globals[1]?).map (·.type) = some 91 := by kernel_rfl
theorem cells_u64 : Tryz.prog.cellsOf 45 = 1 := by kernel_rfl
theorem cells_tab : Tryz.prog.cellsOf 186 = 20 := by kernel_rfl
theorem cells_str : Tryz.prog.cellsOf 9 = 1 := by kernel_rfl
theorem cells_es : Tryz.prog.cellsOf 181 = 1 := by kernel_rfl
theorem star : "*" ++ "errors.errorString" = "*errors.errorString" := by decide
theorem row_es (u : TypeId) (h : Tryz.prog.typeName? 3 u = some "*errors.errorString") : u = 179 :=
  typeName_ptr_named (nm := "errors.errorString") (by rw [star]; kernel_rfl) (by kernel_rfl) (by decide) u (by rw [star]; exact h)

theorem env_of {W : World} (h : laidMetH Tryz.prog laidL W) : Env W := by
  have h0 := (laidMetH_iff.1 h).1
  have hT : laidMet Tryz.prog [("internal/strconv.uint64pow10", Lib.tabData .u64 Lib.pow10Tab)] W := by
    have := h0.filter (fun x => x.1 == "internal/strconv.uint64pow10")
    rwa [show (laidL.filter fun x => x.2.handleName?.isNone).filter (fun x => x.1 == "internal/strconv.uint64pow10") = [("internal/strconv.uint64pow10", Lib.tabData .u64 Lib.pow10Tab)] by kernel_rfl] at this
  have hS : laidMet Tryz.prog [("strconv.ErrSyntax", .iface "*errors.errorString" (.ptr (.agg [.lit (.string [105, 110, 118, 97, 108, 105, 100, 32, 115, 121, 110, 116, 97, 120])])))] W := by
    have := h0.filter (fun x => x.1 == "strconv.ErrSyntax")
    rwa [show (laidL.filter fun x => x.2.handleName?.isNone).filter (fun x => x.1 == "strconv.ErrSyntax") = [("strconv.ErrSyntax", .iface "*errors.errorString" (.ptr (.agg [.lit (.string [105, 110, 118, 97, 108, 105, 100, 32, 115, 121, 110, 116, 97, 120])])))] by kernel_rfl] at this
  have hR : laidMet Tryz.prog [("strconv.ErrRange", .iface "*errors.errorString" (.ptr (.agg [.lit (.string [118, 97, 108, 117, 101, 32, 111, 117, 116, 32, 111, 102, 32, 114, 97, 110, 103, 101])])))] W := by
    have := h0.filter (fun x => x.1 == "strconv.ErrRange")
    rwa [show (laidL.filter fun x => x.2.handleName?.isNone).filter (fun x => x.1 == "strconv.ErrRange") = [("strconv.ErrRange", .iface "*errors.errorString" (.ptr (.agg [.lit (.string [118, 97, 108, 117, 101, 32, 111, 117, 116, 32, 111, 102, 32, 114, 97, 110, 103, 101])])))] by kernel_rfl] at this
  refine ⟨Lib.tabIs_of_head g_tab gt_tab Tryz.underlying186 Tryz.underlying45 cells_u64 cells_tab hT, ?_, ?_⟩
  · obtain ⟨a0, s0, hv0, -, -, -⟩ := laid_sentinel hS g_syn gt_syn Tryz.underlying91 row_es Tryz.underlying179 Tryz.underlying181 rfl rfl Tryz.underlying9 cells_es cells_str
    exact ⟨_, _, hv0⟩
  · obtain ⟨a0, s0, hv0, -, -, -⟩ := laid_sentinel hR g_rng gt_rng Tryz.underlying91 row_es Tryz.underlying179 Tryz.underlying181 rfl rfl Tryz.underlying9 cells_es cells_str
    exact ⟨_, _, hv0⟩

/-- A world for the witness: what the door's run leaves, and the pinned table. -/
noncomputable def laidWorld (os : Os) : World :=
  { World.doorLaid Tryz.prog 72 os with heap := (World.doorLaid Tryz.prog 72 os).heap.modify 3 fun
      | .cells _ t frozen => .cells (Go.Pinned.utf8FirstZ.map fun (z : Nat) => Value.int .u8 z).toArray t frozen
      | o => o }
theorem own : ownKnob Tryz.prog.godebug = none := by kernel_rfl
set_option maxRecDepth 100000 in
theorem laid_met (os : Os) (args : Array Value) : laidMetH Tryz.prog laidL ((laidWorld os).forCall (fun _ _ => 0) ⟨#[], args, []⟩).memory :=
  laidMet_of_run3 8 (by kernel_rfl) (by kernel_rfl) (by kernel_rfl)
theorem vars_ok (os : Os) (args : Array Value) : ((laidWorld os).forCall (fun _ _ => 0) ⟨#[], args, []⟩).variablesRefB Tryz.prog = true := by kernel_rfl
theorem rest_ok (os : Os) (args : Array Value) : (((laidWorld os).forCall (fun _ _ => 0) ⟨#[], args, []⟩).heap.toList.drop Tryz.prog.globals.size).take ((begin Tryz.prog (fun _ _ => 0) default).world.heap.size - Tryz.prog.globals.size) =
      (begin Tryz.prog (fun _ _ => 0) default).world.heap.toList.drop Tryz.prog.globals.size := by kernel_rfl

end Nt
end Go.Proofs.YtmekiidknjjfcaaGreatDoor
