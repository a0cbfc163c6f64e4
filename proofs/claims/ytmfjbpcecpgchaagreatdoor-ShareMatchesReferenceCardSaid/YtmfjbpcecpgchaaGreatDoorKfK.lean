/- Parts of the proof. -/
import Derived.Test.YtmfjbpcecpgchaaGreatDoorKfJ
set_option maxRecDepth 100000
open Go.Proofs.Tryz
namespace Go.Proofs.YtmfjbpcecpgchaaGreatDoor.fnShareMatchesReference
open Go.ChangeShapes Go.WideShapes Go.ChangeAt Go.RowKit
theorem params_ok:([25,26].all fun t=>prog.readableRec t&&decide (t<prog.types.size))=true:=by kernel_rfl
theorem contract(H:Type)(enc:TypeId×Value->H)(W:World)(base:Nat)(args:Array Value)(ds gs:List (DataW H))(before:List MemPlace)
 (a:∀(j:Nat) t v,Tryz.f4.params[j]? = some t->args[j]? = some v->Value.okWide prog W .any base t v)
 (hW:DataW.Whole enc prog Tryz.f4.params.toList Rows.shareMatchesReferenceSpec.vars false W args.toList ds gs before)(hL:laidMetH prog Rows.shareMatchesReferenceRow.laid W)
 (d:(DataW.weightsEach prog (Tryz.f4.params.toList++(OpenSpec.ofChange Rows.shareMatchesReferenceSpec).bare.plain.varTypes prog) (ds++gs)).all (·<=reachBytes)=true):
 Calls prog 4 args W fun e W'=>∃v,e=.returned v/\Rows.shareMatchesReferenceSpec.post enc prog Tryz.f4 false true false false W args v W':=by
 have aa:=hW;obtain⟨p,q,s,hV,rfl,an,ao⟩:=hW;have hA:DataW.TrodAll enc prog W 0 (fun _=>true) true Tryz.f4.params.toList args.toList ds p:=s;rw[Tryz.params4]at hA a d;obtain⟨v0,aq,d0,al,p0,q0,ah,rfl,rfl,h0,r0⟩:=trodAll_cons hA;obtain⟨v1,ar,d1,am,p1,q1,rfl,rfl,rfl,h1,r1⟩:=trodAll_cons r0;obtain⟨rfl,rfl,rfl⟩:=trodAll_nil r1;obtain rfl:args=#[v0,v1]:=by cases args;simp_all
 obtain⟨rfl,rfl⟩:=trodVars_none hV;obtain⟨Ap0,Ac0,Av0,af,ae,ag,s0,rfl,aj,m0,n0,o0,y0,z0⟩:=Ci.Uc (a 0 25 v0 rfl rfl) h0;obtain⟨A1,c1,l1,rfl,ak,ai,_⟩:=Ci.MU (a 1 26 v1 rfl rfl) h1;simp only[wT]at aa d s;have S0:=Ci.Ud aj (Ci.Lj (j:=0) d rfl rfl) m0 n0 o0 y0 z0;have S1:=(Ci.Hz underlying26 (vM (by decide:0<8) (by kernel_rfl)) ak (Ci.Lj (j:=1) d rfl rfl)).1;refine(Sh.Mp s0 Ap0 Ac0 Av0 A1 af ae ag c1 l1 W (Nt.Vq hL) S0 ai S1).mono fun e W' ⟨he,hg⟩=>?_;subst he;have ad:=fun x hx=>aa.lt x hx;have ab:=List.all_eq_true.1 params_ok;refine⟨_,rfl,_,_,_,[],_,[],aa,trodAll_cons_mk (shut_bool underlying4 _) trodAll_mk0,Ci.FA (by kernel_rfl) (fun t ht=>?_) s (fun x hx=>hg.same (ad x hx)) (fun x hx=>by simpa using ad x hx),rfl,hg.frame _,fun h=>by cases h⟩;rw[Tryz.params4]at ht;have:=ab t (by simpa using ht)
 simpa using this
theorem laid_met(os:Os):laidMetH prog Rows.shareMatchesReferenceRow.laid ((Nt.Dx os).forCall (fun _ _=>0) ⟨#[],#[.agg #[.slice none 0 0,.slice none 0 0,.slice none 0 0],.slice none 0 0],[]⟩).memory:=Nt.laid_met os _
theorem reads(os:Os){H:Type}(enc:TypeId×Value->H):∃places,DataW.whole enc prog ((Nt.Dx os).forCall (fun _ _=>0) ⟨#[],#[.agg #[.slice none 0 0,.slice none 0 0,.slice none 0 0],.slice none 0 0],[]⟩).memory Tryz.f4.params.toList Rows.shareMatchesReferenceSpec.vars false (#[.agg #[.slice none 0 0,.slice none 0 0,.slice none 0 0],.slice none 0 0]:Array Value).toList 8=some ([.agg [.nil,.nil,.nil],.nil],[],places) :=
 ⟨[],by kernel_rfl⟩
theorem lifted(os:Os)(started:os.Started)(H:Type)(enc:TypeId×Value->H)(F:Stop.Interp):
 ReturnsInHanded {} Tryz.checked os 4 .any ((OpenSpec.ofChange Rows.shareMatchesReferenceSpec).preRow enc prog Tryz.f4 Rows.shareMatchesReferenceRow.domain false Rows.shareMatchesReferenceRow.laid) (((OpenSpec.ofChange Rows.shareMatchesReferenceSpec).at F).post enc prog Tryz.f4 false true false false):=by
 obtain⟨places,hx⟩:=reads os enc
 refine returnsInHanded_of_row (C:=Tryz.checked) (s:=OpenSpec.ofChange Rows.shareMatchesReferenceSpec) Nt.own started (by kernel_rfl) func4
  (witness_row_atRef (enc:=enc) (C:=Tryz.checked) false (Nt.Dx os) #[.agg #[.slice none 0 0,.slice none 0 0,.slice none 0 0],.slice none 0 0] rfl (Nt.TQ os _) (Nt.TR os _) (by kernel_rfl)
    (OpenSpec.preRow_of_cond 8 hx (by kernel_rfl) (fun k hk=>by cases hk) (by kernel_rfl) (laid_met os))) ?_
 intro W base args ds gs before a hW _ _ d hL _ _;exact contract H enc W base args ds gs before a hW hL d
end Go.Proofs.YtmfjbpcecpgchaaGreatDoor.fnShareMatchesReference
