/- Texts that the proof needs: DoneBFewerK. -/
import Derived.Test.YtilodknkildkbaaGreatDoorKbA
import Derived.Test.YtilodknkildkbaaGreatDoorKbB
import Derived.Test.YtilodknkildkbaaGreatDoorKbC
import Derived.Test.YtilodknkildkbaaGreatDoorKbD
import Derived.Test.YtilodknkildkbaaGreatDoorKbE
import Derived.Test.YtilodknkildkbaaGreatDoorKbF
import Derived.Test.YtilodknkildkbaaGreatDoorKbG
import Derived.Test.YtilodknkildkbaaGreatDoorKbH
import Derived.Test.YtilodknkildkbaaGreatDoorKbI
import Derived.Test.YtilodknkildkbaaGreatDoorKbJ
import Derived.Test.YtilodknkildkbaaGreatDoorKbK
import Derived.Test.YtilodknkildkbaaGreatDoorKbN
import Derived.Test.YtilodknkildkbaaGreatDoorKbY
import Derived.Test.YtilodknkildkbaaGreatDoorKbZE
import Derived.Test.YtilodknkildkbaaGreatDoorKbZF
import Derived.Test.YtilodknkildkbaaGreatDoorKbZG
import Derived.Test.YtilodknkildkbaaGreatDoorKbZH
import Derived.Test.YtilodknkildkbaaGreatDoorKbZI
namespace Go.Proofs.YtilodknkildkbaaGreatDoor.fnBoundFewer
open Go.ChangeShapes Go.WideShapes Go.ChangeAt Go.RowKit
theorem Et:Rows.boundFewerRow.wfByText (OpenSpec.ofChange Rows.boundFewerSpec)=true:=by kernel_rfl
theorem Eu:false=Rows.boundFewerRow.goesBy Tryz.pinned.checked.prog:=by kernel_rfl
theorem plain (f:FuncId) (fn:Func) (hf:Tryz.pinned.checked.prog.funcNamed "customhouse/customhouselaw21.BoundFewer"=some f) (hfn:Tryz.pinned.checked.prog.funcs[f]? = some fn) :
 true=Tryz.pinned.checked.prog.looks []∧∀(j:Nat) t,fn.params[j]? = some t→Tryz.pinned.checked.prog.wantsStandIn t=false:=by
 obtain rfl:f=9 := Option.some.inj ((show Tryz.prog.funcNamed "customhouse/customhouselaw21.BoundFewer"=some 9 by kernel_rfl).symm.trans hf) |>.symm
 obtain rfl:fn=Tryz.f9:=(Option.some.inj (Tryz.func9.symm.trans hfn)).symm;refine⟨by kernel_rfl,fun j t ht=>?_⟩;rw[Tryz.params9]at ht;have hm:t∈[25,26,29,5]:=by simpa using Array.mem_of_getElem? ht
 have hall:([25,26,29,5].all fun u=>!Tryz.prog.wantsStandIn u)=true:=by kernel_rfl
 exact(show Tryz.prog.wantsStandIn t=false by simpa using List.all_eq_true.1 hall t hm)
end Go.Proofs.YtilodknkildkbaaGreatDoor.fnBoundFewer
