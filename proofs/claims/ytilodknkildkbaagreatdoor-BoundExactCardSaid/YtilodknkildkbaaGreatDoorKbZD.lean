/- Texts that the proof needs: DoneBExactK. -/
import Derived.Test.YtilodknkildkbaaGreatDoorKbA
import Derived.Test.YtilodknkildkbaaGreatDoorKbB
import Derived.Test.YtilodknkildkbaaGreatDoorKbC
import Derived.Test.YtilodknkildkbaaGreatDoorKbD
import Derived.Test.YtilodknkildkbaaGreatDoorKbE
import Derived.Test.YtilodknkildkbaaGreatDoorKbF
import Derived.Test.YtilodknkildkbaaGreatDoorKbG
import Derived.Test.YtilodknkildkbaaGreatDoorKbH
import Derived.Test.YtilodknkildkbaaGreatDoorKbI
import Derived.Test.YtilodknkildkbaaGreatDoorKbJ
import Derived.Test.YtilodknkildkbaaGreatDoorKbK
import Derived.Test.YtilodknkildkbaaGreatDoorKbN
import Derived.Test.YtilodknkildkbaaGreatDoorKbY
import Derived.Test.YtilodknkildkbaaGreatDoorKbZ
import Derived.Test.YtilodknkildkbaaGreatDoorKbZA
import Derived.Test.YtilodknkildkbaaGreatDoorKbZB
import Derived.Test.YtilodknkildkbaaGreatDoorKbZC
namespace Go.Proofs.YtilodknkildkbaaGreatDoor.fnBoundExact
open Go.ChangeShapes Go.WideShapes Go.ChangeAt Go.RowKit
theorem Et:Rows.boundExactRow.wfByText (OpenSpec.ofChange Rows.boundExactSpec)=true:=by kernel_rfl
theorem Eu:false=Rows.boundExactRow.goesBy Tryz.pinned.checked.prog:=by kernel_rfl
theorem plain (f:FuncId) (fn:Func) (hf:Tryz.pinned.checked.prog.funcNamed "customhouse/customhouselaw21.BoundExact"=some f) (hfn:Tryz.pinned.checked.prog.funcs[f]? = some fn) :
 true=Tryz.pinned.checked.prog.looks []∧∀(j:Nat) t,fn.params[j]? = some t→Tryz.pinned.checked.prog.wantsStandIn t=false:=by
 obtain rfl:f=5 := Option.some.inj ((show Tryz.prog.funcNamed "customhouse/customhouselaw21.BoundExact"=some 5 by kernel_rfl).symm.trans hf) |>.symm
 obtain rfl:fn=Tryz.f5:=(Option.some.inj (Tryz.func5.symm.trans hfn)).symm;refine⟨by kernel_rfl,fun j t ht=>?_⟩;rw[Tryz.params5]at ht;have hm:t∈[25,26]:=by simpa using Array.mem_of_getElem? ht
 have hall:([25,26].all fun u=>!Tryz.prog.wantsStandIn u)=true:=by kernel_rfl
 exact(show Tryz.prog.wantsStandIn t=false by simpa using List.all_eq_true.1 hall t hm)
end Go.Proofs.YtilodknkildkbaaGreatDoor.fnBoundExact
