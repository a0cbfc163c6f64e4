/- Texts that the proof needs: DoneSChainsK. -/
import Derived.Test.YtioidbebjgeahaaGreatDoorKtA
import Derived.Test.YtioidbebjgeahaaGreatDoorKtB
import Derived.Test.YtioidbebjgeahaaGreatDoorKtC
import Derived.Test.YtioidbebjgeahaaGreatDoorKtD
import Derived.Test.YtioidbebjgeahaaGreatDoorKtE
import Derived.Test.YtioidbebjgeahaaGreatDoorKtF
import Derived.Test.YtioidbebjgeahaaGreatDoorKtG
import Derived.Test.YtioidbebjgeahaaGreatDoorKtH
import Derived.Test.YtioidbebjgeahaaGreatDoorKtI
import Derived.Test.YtioidbebjgeahaaGreatDoorKtL
import Derived.Test.YtioidbebjgeahaaGreatDoorKtU
import Derived.Test.YtioidbebjgeahaaGreatDoorKtZB
import Derived.Test.YtioidbebjgeahaaGreatDoorKtZC
import Derived.Test.YtioidbebjgeahaaGreatDoorKtZD
import Derived.Test.YtioidbebjgeahaaGreatDoorKtZE
import Derived.Test.YtioidbebjgeahaaGreatDoorKtZF
import Derived.Test.YtioidbebjgeahaaGreatDoorKtZG
import Derived.Test.YtioidbebjgeahaaGreatDoorKtZH
namespace Go.Proofs.YtioidbebjgeahaaGreatDoor.fnShareChains
open Go.ChangeShapes Go.WideShapes Go.ChangeAt Go.RowKit
theorem wf_text:Rows.shareChainsRow.wfByText (OpenSpec.ofChange Rows.shareChainsSpec)=true:=by kernel_rfl
theorem goes_by:false=Rows.shareChainsRow.goesBy Tryz.pinned.checked.prog:=by kernel_rfl
theorem plain (f:FuncId) (fn:Func) (hf:Tryz.pinned.checked.prog.funcNamed "customhouse/customhouselaw20.ShareChains"=some f) (hfn:Tryz.pinned.checked.prog.funcs[f]? = some fn) :
 true=Tryz.pinned.checked.prog.looks []∧∀(j:Nat) t,fn.params[j]? = some t→Tryz.pinned.checked.prog.wantsStandIn t=false:=by
 obtain rfl:f=4 := Option.some.inj ((show Tryz.prog.funcNamed "customhouse/customhouselaw20.ShareChains"=some 4 by kernel_rfl).symm.trans hf) |>.symm
 obtain rfl:fn=Tryz.f4:=(Option.some.inj (Tryz.func4.symm.trans hfn)).symm;refine⟨by kernel_rfl,fun j t ht=>?_⟩;rw[Tryz.params4]at ht;have hm:t∈[35]:=by simpa using Array.mem_of_getElem? ht
 have hall:([35].all fun u=>!Tryz.prog.wantsStandIn u)=true:=by kernel_rfl
 exact(show Tryz.prog.wantsStandIn t=false by simpa using List.all_eq_true.1 hall t hm)
end Go.Proofs.YtioidbebjgeahaaGreatDoor.fnShareChains
