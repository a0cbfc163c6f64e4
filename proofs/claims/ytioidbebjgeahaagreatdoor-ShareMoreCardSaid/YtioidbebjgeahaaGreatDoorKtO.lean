/- Texts that the proof needs: DoneSMoreK. -/
import Derived.Test.YtioidbebjgeahaaGreatDoorKtA
import Derived.Test.YtioidbebjgeahaaGreatDoorKtB
import Derived.Test.YtioidbebjgeahaaGreatDoorKtC
import Derived.Test.YtioidbebjgeahaaGreatDoorKtD
import Derived.Test.YtioidbebjgeahaaGreatDoorKtE
import Derived.Test.YtioidbebjgeahaaGreatDoorKtF
import Derived.Test.YtioidbebjgeahaaGreatDoorKtG
import Derived.Test.YtioidbebjgeahaaGreatDoorKtH
import Derived.Test.YtioidbebjgeahaaGreatDoorKtI
import Derived.Test.YtioidbebjgeahaaGreatDoorKtJ
import Derived.Test.YtioidbebjgeahaaGreatDoorKtK
import Derived.Test.YtioidbebjgeahaaGreatDoorKtL
import Derived.Test.YtioidbebjgeahaaGreatDoorKtM
import Derived.Test.YtioidbebjgeahaaGreatDoorKtN
namespace Go.Proofs.YtioidbebjgeahaaGreatDoor.fnShareMore
open Go.ChangeShapes Go.WideShapes Go.ChangeAt Go.RowKit
theorem wf_text:Rows.shareMoreRow.wfByText (OpenSpec.ofChange Rows.shareMoreSpec)=true:=by kernel_rfl
theorem goes_by:false=Rows.shareMoreRow.goesBy Tryz.pinned.checked.prog:=by kernel_rfl
theorem plain (f:FuncId) (fn:Func) (hf:Tryz.pinned.checked.prog.funcNamed "customhouse/customhouselaw20.ShareMore"=some f) (hfn:Tryz.pinned.checked.prog.funcs[f]? = some fn) :
 true=Tryz.pinned.checked.prog.looks []∧∀(j:Nat) t,fn.params[j]? = some t→Tryz.pinned.checked.prog.wantsStandIn t=false:=by
 obtain rfl:f=7 := Option.some.inj ((show Tryz.prog.funcNamed "customhouse/customhouselaw20.ShareMore"=some 7 by kernel_rfl).symm.trans hf) |>.symm
 obtain rfl:fn=Tryz.f7:=(Option.some.inj (Tryz.func7.symm.trans hfn)).symm;refine⟨by kernel_rfl,fun j t ht=>?_⟩;rw[Tryz.params7]at ht;have hm:t∈[25,26]:=by simpa using Array.mem_of_getElem? ht
 have hall:([25,26].all fun u=>!Tryz.prog.wantsStandIn u)=true:=by kernel_rfl
 exact(show Tryz.prog.wantsStandIn t=false by simpa using List.all_eq_true.1 hall t hm)
end Go.Proofs.YtioidbebjgeahaaGreatDoor.fnShareMore
