/- Parts of the proof. -/
import Derived.Test.YtefmpngjjmddjaaGreatDoorKhM
open Go.Proofs.Tryz
namespace Go.Proofs.YtefmpngjjmddjaaGreatDoor.fnTopBounds
open Go.ChangeShapes Go.WideShapes Go.ChangeAt Go.RowKit
theorem Wj:Rows.topBoundsRow.wfByText (OpenSpec.ofChange Rows.topBoundsSpec)=true:=by kernel_rfl
theorem Wk:false=Rows.topBoundsRow.goesBy Tryz.pinned.checked.prog:=by kernel_rfl
theorem plain(f:FuncId)(fn:Func)(hf:Tryz.pinned.checked.prog.funcNamed "customhouse/customhousetop.TopBounds"=some f)(h:Tryz.pinned.checked.prog.funcs[f]? = some fn):
 true=Tryz.pinned.checked.prog.looks []/\∀(j:Nat) t,fn.params[j]? = some t->Tryz.pinned.checked.prog.wantsStandIn t=false:=by
 obtain rfl:f=4 := Option.some.inj ((show prog.funcNamed "customhouse/customhousetop.TopBounds"=some 4 by kernel_rfl).symm.trans hf) |>.symm
 obtain rfl:fn=Tryz.f4:=(Option.some.inj (func4.symm.trans h)).symm;refine⟨by kernel_rfl,fun j t ht=>?_⟩;rw[Tryz.params4]at ht;have hm:t∈[32,37,53]:=by simpa using Array.mem_of_getElem? ht
 have d:([32,37,53].all fun u=>!prog.wantsStandIn u)=true:=by kernel_rfl
 exact(show prog.wantsStandIn t=false by simpa using List.all_eq_true.1 d t hm)
end Go.Proofs.YtefmpngjjmddjaaGreatDoor.fnTopBounds
