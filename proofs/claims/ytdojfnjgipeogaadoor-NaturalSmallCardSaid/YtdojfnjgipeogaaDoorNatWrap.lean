/- From a row's list of laid variables to Env, and the witness's world. -/
import Derived.Test.YtdojfnjgipeogaaDoorNatHead
import Derived.Test.YtdojfnjgipeogaaDoorCards
import Derived.Test.YtdojfnjgipeogaaDoorTie
import Derived.ProofKit
import Derived.OpenShut
import Derived.Deep.DeepHandedRow
import Derived.Deep.DeepWitnessRowRef
import Derived.Deep.DeepLaidRun
import Derived.Lib.LaidTab
import Derived.Stop.LaidErr
import Derived.LaidMore
import Derived.LaidSub
namespace Go.Proofs.YtdojfnjgipeogaaDoor
open Go.ChangeShapes Go.WideShapes Go.ChangeAt Go.RowKit Go.Shelf
namespace Nt

/-- The list that every row of this seat bears. -/
def laidL : List (String × DataW Unit) := Rows.naturalSmallRow.laid

theorem gt_tab : (Tryd.prog.globals[2]?).map (·.type) = some 119 := by kernel_rfl
theorem gt_syn : (Tryd.prog.globals[0]?).map (·.type) = some 42 := by kernel_rfl
theorem gt_rng : (Tryd.prog.globals[1]?).map (·.type) = some 42 := by kernel_rfl
theorem cells_u64 : Tryd.prog.cellsOf 65 = 1 := by kernel_rfl
theorem cells_tab : Tryd.prog.cellsOf 119 = 20 := by kernel_rfl
theorem cells_str : Tryd.prog.cellsOf 9 = 1 := by kernel_rfl
theorem cells_es : Tryd.prog.cellsOf 124 = 1 := by kernel_rfl
theorem star : "*" ++ "errors.errorString" = "*errors.errorString" := by decide
theorem row_es (u : TypeId) (h : Tryd.prog.typeName? 3 u = some "*errors.errorString") : u = 122 :=
  typeName_ptr_named (nm := "errors.errorString") (by rw [star]; kernel_rfl) (by kernel_rfl) (by decide) u (by rw [star]; exact h)

theorem env_of {W : World} (h : laidMetH Tryd.prog laidL W) : Env W := by
  have h0 := (laidMetH_iff.1 h).1
  have hT : laidMet Tryd.prog [("internal/strconv.uint64pow10", Lib.tabData .u64 Lib.pow10Tab)] W := by
    have := h0.filter (fun x => x.1 == "internal/strconv.uint64pow10")
    rwa [show (laidL.filter fun x => x.2.handleName?.isNone).filter (fun x => x.1 == "internal/strconv.uint64pow10") = [("internal/strconv.uint64pow10", Lib.tabData .u64 Lib.pow10Tab)] by kernel_rfl] at this
  have hS : laidMet Tryd.prog [("strconv.ErrSyntax", .iface "*errors.errorString" (.ptr (.agg [.lit (.string [105, 110, 118, 97, 108, 105, 100, 32, 115, 121, 110, 116, 97, 120])])))] W := by
    have := h0.filter (fun x => x.1 == "strconv.ErrSyntax")
    rwa [show (laidL.filter fun x => x.2.handleName?.isNone).filter (fun x => x.1 == "strconv.ErrSyntax") = [("strconv.ErrSyntax", .iface "*errors.errorString" (.ptr (.agg [.lit (.string [105, 110, 118, 97, 108, 105, 100, 32, 115, 121, 110, 116, 97, 120])])))] by kernel_rfl] at this
  have hR : laidMet Tryd.prog [("strconv.ErrRange", .iface "*errors.errorString" (.ptr (.agg [.lit (.string [118, 97, 108, 117, 101, 32, 111, 117, 116, 32, 111, 102, 32, 114, 97, 110, 103, 101])])))] W := by
    have := h0.filter (fun x => x.1 == "strconv.ErrRange")
    rwa [show (laidL.filter fun x => x.2.handleName?.isNone).filter (fun x => x.1 == "strconv.ErrRange") = [("strconv.ErrRange", .iface "*errors.errorString" (.ptr (.agg [.lit (.string [118, 97, 108, 117, 101, 32, 111, 117, 116, 32, 111, 102, 32, 114, 97, 110, 103, 101])])))] by kernel_rfl] at this
  refine ⟨Lib.tabIs_of_head g_tab gt_tab Tryd.underlying119 Tryd.underlying65 cells_u64 cells_tab hT, ?_, ?_⟩
  · obtain ⟨a0, s0, hv0, -, -, -⟩ := laid_sentinel hS g_syn gt_syn Tryd.underlying42 row_es Tryd.underlying122 Tryd.underlying124 rfl rfl Tryd.underlying9 cells_es cells_str
    exact ⟨_, _, hv0⟩
  · obtain ⟨a0, s0, hv0, -, -, -⟩ := laid_sentinel hR g_rng gt_rng Tryd.underlying42 row_es Tryd.underlying122 Tryd.underlying124 rfl rfl Tryd.underlying9 cells_es cells_str
    exact ⟨_, _, hv0⟩

/-- A world for the witness: what the door's run leaves, and the pinned table. -/
noncomputable def laidWorld (os : Os) : World :=
  { World.doorLaid Tryd.prog 72 os with heap := (World.doorLaid Tryd.prog 72 os).heap.modify 3 fun
      | .cells _ t frozen => .cells (Go.Pinned.utf8FirstZ.map fun (z : Nat) => Value.int .u8 z).toArray t frozen
      | o => o }
theorem own : ownKnob Tryd.prog.godebug = none := by kernel_rfl
set_option maxRecDepth 100000 in
theorem laid_met (os : Os) (args : Array Value) : laidMetH Tryd.prog laidL ((laidWorld os).forCall (fun _ _ => 0) ⟨#[], args, []⟩).memory :=
  laidMet_of_run3 8 (by kernel_rfl) (by kernel_rfl) (by kernel_rfl)
theorem vars_ok (os : Os) (args : Array Value) : ((laidWorld os).forCall (fun _ _ => 0) ⟨#[], args, []⟩).variablesRefB Tryd.prog = true := by kernel_rfl
theorem rest_ok (os : Os) (args : Array Value) : (((laidWorld os).forCall (fun _ _ => 0) ⟨#[], args, []⟩).heap.toList.drop Tryd.prog.globals.size).take ((begin Tryd.prog (fun _ _ => 0) default).world.heap.size - Tryd.prog.globals.size) =
      (begin Tryd.prog (fun _ _ => 0) default).world.heap.toList.drop Tryd.prog.globals.size := by kernel_rfl

end Nt
end Go.Proofs.YtdojfnjgipeogaaDoor
