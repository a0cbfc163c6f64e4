/- Texts that the proof needs: DoneSSolvesK. -/
import Derived.Test.YtioidbebjgeahaaGreatDoorKsA
import Derived.Test.YtioidbebjgeahaaGreatDoorKsB
import Derived.Test.YtioidbebjgeahaaGreatDoorKsC
import Derived.Test.YtioidbebjgeahaaGreatDoorKsD
import Derived.Test.YtioidbebjgeahaaGreatDoorKsE
import Derived.Test.YtioidbebjgeahaaGreatDoorKsF
import Derived.Test.YtioidbebjgeahaaGreatDoorKsG
import Derived.Test.YtioidbebjgeahaaGreatDoorKsH
import Derived.Test.YtioidbebjgeahaaGreatDoorKsI
import Derived.Test.YtioidbebjgeahaaGreatDoorKsJ
import Derived.Test.YtioidbebjgeahaaGreatDoorKsK
import Derived.Test.YtioidbebjgeahaaGreatDoorKsL
namespace Go.Proofs.YtioidbebjgeahaaGreatDoor.fnShareSolves
open Go.ChangeShapes Go.WideShapes Go.ChangeAt Go.RowKit
theorem wf_text : Rows.shareSolvesRow.wfByText (OpenSpec.ofChange Rows.shareSolvesSpec) = true:=by kernel_rfl
theorem goes_by : false = Rows.shareSolvesRow.goesBy Tryz.pinned.checked.prog:=by kernel_rfl
theorem plain (f : FuncId) (fn : Func) (hf : Tryz.pinned.checked.prog.funcNamed "customhouse/customhouselaw20.ShareSolves" = some f) (hfn : Tryz.pinned.checked.prog.funcs[f]? = some fn) :
 true = Tryz.pinned.checked.prog.looks [] ∧ ∀ (j : Nat) t,fn.params[j]? = some t → Tryz.pinned.checked.prog.wantsStandIn t = false:=by
 obtain rfl : f = 5 := Option.some.inj ((show Tryz.prog.funcNamed "customhouse/customhouselaw20.ShareSolves" = some 5 by kernel_rfl).symm.trans hf) |>.symm
 obtain rfl : fn = Tryz.f5:=(Option.some.inj (Tryz.func5.symm.trans hfn)).symm
 refine ⟨by kernel_rfl,fun j t ht => ?_⟩
 rw [Tryz.params5] at ht
 have hm : t ∈ [25,26]:=by simpa using Array.mem_of_getElem? ht
 have hall : ([25,26].all fun u => !Tryz.prog.wantsStandIn u) = true:=by kernel_rfl
 exact (show Tryz.prog.wantsStandIn t = false by simpa using List.all_eq_true.1 hall t hm)
end Go.Proofs.YtioidbebjgeahaaGreatDoor.fnShareSolves
