/- Parts of the proof. -/
import Derived.Test.YtefmpngjjmddjaaGreatDoorKgQ
open Go.Proofs.Tryz
namespace Go.Proofs.YtefmpngjjmddjaaGreatDoor.fnTopHoldings
open Go.ChangeShapes Go.WideShapes Go.ChangeAt Go.RowKit
theorem Vd:Rows.topHoldingsRow.wfByText (OpenSpec.ofChange Rows.topHoldingsSpec)=true:=by kernel_rfl
theorem Ve:false=Rows.topHoldingsRow.goesBy Tryz.pinned.checked.prog:=by kernel_rfl
theorem plain(f:FuncId)(fn:Func)(hf:Tryz.pinned.checked.prog.funcNamed "customhouse/customhousetop.TopHoldings"=some f)(h:Tryz.pinned.checked.prog.funcs[f]? = some fn):
 true=Tryz.pinned.checked.prog.looks []/\∀(j:Nat) t,fn.params[j]? = some t->Tryz.pinned.checked.prog.wantsStandIn t=false:=by
 obtain rfl:f=3 := Option.some.inj ((show prog.funcNamed "customhouse/customhousetop.TopHoldings"=some 3 by kernel_rfl).symm.trans hf) |>.symm
 obtain rfl:fn=Tryz.f3:=(Option.some.inj (func3.symm.trans h)).symm;refine⟨by kernel_rfl,fun j t ht=>?_⟩;rw[Tryz.params3]at ht;have hm:t∈[22,3,23,5]:=by simpa using Array.mem_of_getElem? ht
 have d:([22,3,23,5].all fun u=>!prog.wantsStandIn u)=true:=by kernel_rfl
 exact(show prog.wantsStandIn t=false by simpa using List.all_eq_true.1 d t hm)
end Go.Proofs.YtefmpngjjmddjaaGreatDoor.fnTopHoldings
