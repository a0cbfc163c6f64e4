/- Parts of the proof. -/
import Derived.Test.YtefmpngjjmddjaaGreatDoorKgM
set_option maxRecDepth 100000
open Go.Proofs.Tryz
namespace Go.Proofs.YtefmpngjjmddjaaGreatDoor.fnTopHoldings
open Go.ChangeShapes Go.WideShapes Go.ChangeAt Go.RowKit
theorem params_ok:([22,3,23,5].all fun t=>prog.readableRec t&&decide (t<prog.types.size))=true:=by kernel_rfl
theorem contract(H:Type)(enc:TypeId×Value->H)(W:World)(base:Nat)(args:Array Value)(ds gs:List (DataW H))(before:List MemPlace)
 (d:∀(j:Nat) t v,Tryz.f3.params[j]? = some t->args[j]? = some v->Value.okWide prog W .any base t v)
 (hW:DataW.Whole enc prog Tryz.f3.params.toList Rows.topHoldingsSpec.vars false W args.toList ds gs before)(hL:laidMetH prog Rows.topHoldingsRow.laid W)
 (aa:(DataW.weightsEach prog (Tryz.f3.params.toList++(OpenSpec.ofChange Rows.topHoldingsSpec).bare.plain.varTypes prog) (ds++gs)).all (·<=reachBytes)=true):
 Calls prog 3 args W fun e W'=>∃v,e=.returned v/\Rows.topHoldingsSpec.post enc prog Tryz.f3 false true false false W args v W':=by
 have ad:=hW;obtain⟨p,q,ab,hV,rfl,aq,ar⟩:=hW;have hA:DataW.TrodAll enc prog W 0 (fun _=>true) true Tryz.f3.params.toList args.toList ds p:=ab;rw[Tryz.params3]at hA d aa;obtain⟨v0,au,d0,am,p0,q0,ag,rfl,rfl,h0,r0⟩:=trodAll_cons hA;obtain⟨v1,av,d1,an,p1,q1,rfl,rfl,rfl,h1,r1⟩:=trodAll_cons r0;obtain⟨v2,aw,d2,ao,p2,q2,rfl,rfl,rfl,h2,r2⟩:=trodAll_cons r1;obtain⟨v3,ax,d3,ap,p3,q3,rfl,rfl,rfl,h3,r3⟩:=trodAll_cons r2;obtain⟨rfl,rfl,rfl⟩:=trodAll_nil r3;obtain rfl:args=#[v0,v1,v2,v3]:=by cases args;simp_all
 obtain⟨rfl,rfl⟩:=trodVars_none hV;obtain⟨A0,c0,l0,rfl,ak,ai,ah⟩:=Rg.open_hdsV (d 0 22 v0 rfl rfl) h0;obtain⟨x1,rfl,rfl,rfl,k1⟩:=open_int underlying3 (d 1 3 v1 rfl rfl) h1;obtain⟨A2,c2,l2,rfl,al,aj⟩:=Rg.open_strsV (d 2 23 v2 rfl rfl) h2;obtain⟨x3,rfl,rfl,rfl,k3⟩:=open_int underlying5 (d 3 5 v3 rfl rfl) h3;have b3:0<=x3/\x3<=255:=Nt.Rr k3;simp only[xN]at ad aa ab;have S0:=Rg.hds_sz ak (Ci.Ls (j:=0) aa rfl rfl) ah;have S2:=Rg.strs_sz al (Ci.Ls (j:=2) aa rfl rfl);refine(Rg.law_thold l0 A0 c0 x1 l2 A2 c2 x3 W (Nt.VF hL) b3.1 b3.2 ai S0.2 S0.1 aj S2.2 S2.1).mono fun e W' ⟨he,hg⟩=>?_;subst he;have af:=fun x hx=>ad.lt x hx;have ae:=List.all_eq_true.1 params_ok;refine⟨_,rfl,_,_,_,[],_,[],ad,trodAll_cons_mk (shut_bool underlying4 _) trodAll_mk0,Ci.Fv (by kernel_rfl) (fun t ht=>?_) ab (fun x hx=>hg.same (af x hx)) (fun x hx=>by simpa using af x hx),rfl,hg.frame _,fun h=>by cases h⟩;rw[Tryz.params3]at ht;have:=ae t (by simpa using ht)
 simpa using this
theorem laid_met(os:Os):laidMetH prog Rows.topHoldingsRow.laid ((Nt.Db os).forCall (fun _ _=>0) ⟨#[],#[.slice none 0 0,.int .i64 0,.slice none 0 0,.int .u8 0],[]⟩).memory:=Nt.laid_met os _
theorem reads(os:Os){H:Type}(enc:TypeId×Value->H):∃places,DataW.whole enc prog ((Nt.Db os).forCall (fun _ _=>0) ⟨#[],#[.slice none 0 0,.int .i64 0,.slice none 0 0,.int .u8 0],[]⟩).memory Tryz.f3.params.toList Rows.topHoldingsSpec.vars false (#[.slice none 0 0,.int .i64 0,.slice none 0 0,.int .u8 0]:Array Value).toList 8=some ([.nil,.lit (.int .i64 0),.nil,.lit (.int .u8 0)],[],places) :=
 ⟨[],by kernel_rfl⟩
theorem lifted(os:Os)(started:os.Started)(H:Type)(enc:TypeId×Value->H)(F:Stop.Interp):
 ReturnsInHanded {} Tryz.checked os 3 .any ((OpenSpec.ofChange Rows.topHoldingsSpec).preRow enc prog Tryz.f3 Rows.topHoldingsRow.domain false Rows.topHoldingsRow.laid) (((OpenSpec.ofChange Rows.topHoldingsSpec).at F).post enc prog Tryz.f3 false true false false):=by
 obtain⟨places,hx⟩:=reads os enc
 refine returnsInHanded_of_row (C:=Tryz.checked) (s:=OpenSpec.ofChange Rows.topHoldingsSpec) Nt.own started (by kernel_rfl) func3
  (witness_row_atRef (enc:=enc) (C:=Tryz.checked) false (Nt.Db os) #[.slice none 0 0,.int .i64 0,.slice none 0 0,.int .u8 0] rfl (Nt.TZ os _) (Nt.Ua os _) (by kernel_rfl)
    (OpenSpec.preRow_of_cond 8 hx (by kernel_rfl) (fun k hk=>by cases hk) (by kernel_rfl) (laid_met os))) ?_
 intro W base args ds gs before d hW _ _ h hL _ _;exact contract H enc W base args ds gs before d hW hL h
end Go.Proofs.YtefmpngjjmddjaaGreatDoor.fnTopHoldings
