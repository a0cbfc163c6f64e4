/- Parts of the proof. -/
import Derived.Test.YtmfjbpcecpgchaaGreatDoorKfN
open Go.Proofs.Tryz
namespace Go.Proofs.YtmfjbpcecpgchaaGreatDoor.fnShareMatchesReference
open Go.ChangeShapes Go.WideShapes Go.ChangeAt Go.RowKit
theorem UK:Rows.shareMatchesReferenceRow.wfByText (OpenSpec.ofChange Rows.shareMatchesReferenceSpec)=true:=by kernel_rfl
theorem UL:false=Rows.shareMatchesReferenceRow.goesBy Tryz.pinned.checked.prog:=by kernel_rfl
theorem plain(f:FuncId)(fn:Func)(hf:Tryz.pinned.checked.prog.funcNamed "customhouse/customhouselaw20.ShareMatchesReference"=some f)(d:Tryz.pinned.checked.prog.funcs[f]? = some fn):
 true=Tryz.pinned.checked.prog.looks []/\∀(j:Nat) t,fn.params[j]? = some t->Tryz.pinned.checked.prog.wantsStandIn t=false:=by
 obtain rfl:f=4 := Option.some.inj ((show prog.funcNamed "customhouse/customhouselaw20.ShareMatchesReference"=some 4 by kernel_rfl).symm.trans hf) |>.symm
 obtain rfl:fn=Tryz.f4:=(Option.some.inj (func4.symm.trans d)).symm;refine⟨by kernel_rfl,fun j t ht=>?_⟩;rw[Tryz.params4]at ht;have hm:t∈[25,26]:=by simpa using Array.mem_of_getElem? ht
 have a:([25,26].all fun u=>!prog.wantsStandIn u)=true:=by kernel_rfl
 exact(show prog.wantsStandIn t=false by simpa using List.all_eq_true.1 a t hm)
end Go.Proofs.YtmfjbpcecpgchaaGreatDoor.fnShareMatchesReference
