/- Texts that the proof needs: DoneBJoinsK. -/
import Derived.Test.YtmfjbpcecpgchaaGreatDoorKeP
namespace Go.Proofs.YtmfjbpcecpgchaaGreatDoor.fnBoundJoins
open Go.ChangeShapes Go.WideShapes Go.ChangeAt Go.RowKit
theorem UE:Rows.boundJoinsRow.wfByText (OpenSpec.ofChange Rows.boundJoinsSpec)=true:=by kernel_rfl
theorem UF:false=Rows.boundJoinsRow.goesBy Tryz.pinned.checked.prog:=by kernel_rfl
theorem plain(f:FuncId)(fn:Func)(hf:Tryz.pinned.checked.prog.funcNamed "customhouse/customhouselaw21.BoundJoins"=some f)(d:Tryz.pinned.checked.prog.funcs[f]? = some fn):
 true=Tryz.pinned.checked.prog.looks []/\∀(j:Nat) t,fn.params[j]? = some t->Tryz.pinned.checked.prog.wantsStandIn t=false:=by
 obtain rfl:f=3 := Option.some.inj ((show Tryz.prog.funcNamed "customhouse/customhouselaw21.BoundJoins"=some 3 by kernel_rfl).symm.trans hf) |>.symm
 obtain rfl:fn=Tryz.f3:=(Option.some.inj (Tryz.func3.symm.trans d)).symm;refine⟨by kernel_rfl,fun j t ht=>?_⟩;rw[Tryz.params3]at ht;have hm:t∈[25,26,29]:=by simpa using Array.mem_of_getElem? ht
 have a:([25,26,29].all fun u=>!Tryz.prog.wantsStandIn u)=true:=by kernel_rfl
 exact(show Tryz.prog.wantsStandIn t=false by simpa using List.all_eq_true.1 a t hm)
end Go.Proofs.YtmfjbpcecpgchaaGreatDoor.fnBoundJoins
