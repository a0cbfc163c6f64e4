/- Texts that the proof needs: DoneSLeastK. -/
import Derived.Test.YtioidbebjgeahaaGreatDoorKtA
import Derived.Test.YtioidbebjgeahaaGreatDoorKtB
import Derived.Test.YtioidbebjgeahaaGreatDoorKtC
import Derived.Test.YtioidbebjgeahaaGreatDoorKtD
import Derived.Test.YtioidbebjgeahaaGreatDoorKtE
import Derived.Test.YtioidbebjgeahaaGreatDoorKtF
import Derived.Test.YtioidbebjgeahaaGreatDoorKtG
import Derived.Test.YtioidbebjgeahaaGreatDoorKtH
import Derived.Test.YtioidbebjgeahaaGreatDoorKtI
import Derived.Test.YtioidbebjgeahaaGreatDoorKtL
import Derived.Test.YtioidbebjgeahaaGreatDoorKtZJ
import Derived.Test.YtioidbebjgeahaaGreatDoorKtZK
import Derived.Test.YtioidbebjgeahaaGreatDoorKtZL
import Derived.Test.YtioidbebjgeahaaGreatDoorKtZM
import Derived.Test.YtioidbebjgeahaaGreatDoorKtZN
import Derived.Test.YtioidbebjgeahaaGreatDoorKtZO
import Derived.Test.YtioidbebjgeahaaGreatDoorKtZP
import Derived.Test.YtioidbebjgeahaaGreatDoorKtZQ
import Derived.Test.YtioidbebjgeahaaGreatDoorKtZR
namespace Go.Proofs.YtioidbebjgeahaaGreatDoor.fnShareLeast
open Go.ChangeShapes Go.WideShapes Go.ChangeAt Go.RowKit
theorem wf_text:Rows.shareLeastRow.wfByText (OpenSpec.ofChange Rows.shareLeastSpec)=true:=by kernel_rfl
theorem goes_by:false=Rows.shareLeastRow.goesBy Tryz.pinned.checked.prog:=by kernel_rfl
theorem plain (f:FuncId) (fn:Func) (hf:Tryz.pinned.checked.prog.funcNamed "customhouse/customhouselaw20.ShareLeast"=some f) (hfn:Tryz.pinned.checked.prog.funcs[f]? = some fn) :
 true=Tryz.pinned.checked.prog.looks []∧∀(j:Nat) t,fn.params[j]? = some t→Tryz.pinned.checked.prog.wantsStandIn t=false:=by
 obtain rfl:f=6 := Option.some.inj ((show Tryz.prog.funcNamed "customhouse/customhouselaw20.ShareLeast"=some 6 by kernel_rfl).symm.trans hf) |>.symm
 obtain rfl:fn=Tryz.f6:=(Option.some.inj (Tryz.func6.symm.trans hfn)).symm;refine⟨by kernel_rfl,fun j t ht=>?_⟩;rw[Tryz.params6]at ht;have hm:t∈[25,26,29]:=by simpa using Array.mem_of_getElem? ht
 have hall:([25,26,29].all fun u=>!Tryz.prog.wantsStandIn u)=true:=by kernel_rfl
 exact(show Tryz.prog.wantsStandIn t=false by simpa using List.all_eq_true.1 hall t hm)
end Go.Proofs.YtioidbebjgeahaaGreatDoor.fnShareLeast
