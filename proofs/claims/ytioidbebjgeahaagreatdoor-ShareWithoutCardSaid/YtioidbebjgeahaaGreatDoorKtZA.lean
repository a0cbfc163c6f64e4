/- Texts that the proof needs: DoneSWithoutK. -/
import Derived.Test.YtioidbebjgeahaaGreatDoorKtA
import Derived.Test.YtioidbebjgeahaaGreatDoorKtB
import Derived.Test.YtioidbebjgeahaaGreatDoorKtC
import Derived.Test.YtioidbebjgeahaaGreatDoorKtD
import Derived.Test.YtioidbebjgeahaaGreatDoorKtE
import Derived.Test.YtioidbebjgeahaaGreatDoorKtF
import Derived.Test.YtioidbebjgeahaaGreatDoorKtG
import Derived.Test.YtioidbebjgeahaaGreatDoorKtH
import Derived.Test.YtioidbebjgeahaaGreatDoorKtI
import Derived.Test.YtioidbebjgeahaaGreatDoorKtL
import Derived.Test.YtioidbebjgeahaaGreatDoorKtU
import Derived.Test.YtioidbebjgeahaaGreatDoorKtV
import Derived.Test.YtioidbebjgeahaaGreatDoorKtW
import Derived.Test.YtioidbebjgeahaaGreatDoorKtX
import Derived.Test.YtioidbebjgeahaaGreatDoorKtY
import Derived.Test.YtioidbebjgeahaaGreatDoorKtZ
namespace Go.Proofs.YtioidbebjgeahaaGreatDoor.fnShareWithout
open Go.ChangeShapes Go.WideShapes Go.ChangeAt Go.RowKit
theorem wf_text:Rows.shareWithoutRow.wfByText (OpenSpec.ofChange Rows.shareWithoutSpec)=true:=by kernel_rfl
theorem goes_by:false=Rows.shareWithoutRow.goesBy Tryz.pinned.checked.prog:=by kernel_rfl
theorem plain (f:FuncId) (fn:Func) (hf:Tryz.pinned.checked.prog.funcNamed "customhouse/customhouselaw20.ShareWithout"=some f) (hfn:Tryz.pinned.checked.prog.funcs[f]? = some fn) :
 true=Tryz.pinned.checked.prog.looks []∧∀(j:Nat) t,fn.params[j]? = some t→Tryz.pinned.checked.prog.wantsStandIn t=false:=by
 obtain rfl:f=9 := Option.some.inj ((show Tryz.prog.funcNamed "customhouse/customhouselaw20.ShareWithout"=some 9 by kernel_rfl).symm.trans hf) |>.symm
 obtain rfl:fn=Tryz.f9:=(Option.some.inj (Tryz.func9.symm.trans hfn)).symm;refine⟨by kernel_rfl,fun j t ht=>?_⟩;rw[Tryz.params9]at ht;have hm:t∈[25,26,5]:=by simpa using Array.mem_of_getElem? ht
 have hall:([25,26,5].all fun u=>!Tryz.prog.wantsStandIn u)=true:=by kernel_rfl
 exact(show Tryz.prog.wantsStandIn t=false by simpa using List.all_eq_true.1 hall t hm)
end Go.Proofs.YtioidbebjgeahaaGreatDoor.fnShareWithout
