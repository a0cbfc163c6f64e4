/- Texts that the proof needs: DoneBJoinsA. -/
import Derived.Test.YtmfjbpcecpgchaaGreatDoorKeL
set_option maxRecDepth 100000
namespace Go.Proofs.YtmfjbpcecpgchaaGreatDoor.fnBoundJoins
open Go.ChangeShapes Go.WideShapes Go.ChangeAt Go.RowKit
theorem params_ok:([25,26,29].all fun t=>Tryz.prog.readableRec t&&decide (t<Tryz.prog.types.size))=true:=by kernel_rfl
theorem contract(H:Type)(enc:TypeId×Value->H)(W:World)(base:Nat)(args:Array Value)(ds gs:List (DataW H))(before:List MemPlace)
 (a:∀(j:Nat) t v,Tryz.f3.params[j]? = some t->args[j]? = some v->Value.okWide Tryz.prog W .any base t v)
 (hW:DataW.Whole enc Tryz.prog Tryz.f3.params.toList Rows.boundJoinsSpec.vars false W args.toList ds gs before)(hL:laidMetH Tryz.prog Rows.boundJoinsRow.laid W)
 (d:(DataW.weightsEach Tryz.prog (Tryz.f3.params.toList++(OpenSpec.ofChange Rows.boundJoinsSpec).bare.plain.varTypes Tryz.prog) (ds++gs)).all (·<=reachBytes)=true):
 Calls Tryz.prog 3 args W fun e W'=>∃v,e=.returned v/\Rows.boundJoinsSpec.post enc Tryz.prog Tryz.f3 false true false false W args v W':=by
 have ad:=hW;obtain⟨p,q,aa,hV,rfl,aA,aB⟩:=hW;have hA:DataW.TrodAll enc Tryz.prog W 0 (fun _=>true) true Tryz.f3.params.toList args.toList ds p:=aa;rw[Tryz.params3]at hA a d;obtain⟨v0,aC,d0,aw,p0,q0,aj,rfl,rfl,h0,r0⟩:=trodAll_cons hA;obtain⟨v1,aD,d1,ax,p1,q1,rfl,rfl,rfl,h1,r1⟩:=trodAll_cons r0;obtain⟨v2,aE,d2,ay,p2,q2,rfl,rfl,rfl,h2,r2⟩:=trodAll_cons r1;obtain⟨v3,aF,d3,az,p3,q3,rfl,rfl,rfl,h3,r3⟩:=trodAll_cons r2;obtain⟨rfl,rfl,rfl⟩:=trodAll_nil r3;obtain rfl:args=#[v0,v1,v2,v3]:=by cases args;simp_all
 obtain⟨rfl,rfl⟩:=trodVars_none hV;obtain⟨Ap0,Ac0,Av0,ah,ag,ai,s0,rfl,an,m0,n0,o0,y0,z0⟩:=Ci.TQ (a 0 25 v0 rfl rfl) h0;obtain⟨A1,c1,l1,rfl,ao,ak,_⟩:=Ci.M7 (a 1 26 v1 rfl rfl) h1;obtain⟨k2,A2,D2,m2,o2,l2,u2,rfl,aq,al,au⟩:=Bd.JA (a 2 29 v2 rfl rfl) h2;obtain⟨k3,A3,D3,m3,o3,l3,u3,rfl,ar,am,av⟩:=Bd.JA (a 3 29 v3 rfl rfl) h3;simp only[wN]at ad d aa;have S0:=Ci.TR an (Ci.EQ (j:=0) d rfl rfl) m0 n0 o0 y0 z0;have S1:=(Ci.FZ Tryz.underlying26 (wj (by decide:0<8) (by kernel_rfl)) ao (Ci.EQ (j:=1) d rfl rfl)).1;have S2:=Bd.Tg aq (Ci.EQ (j:=2) d rfl rfl) al au;have S3:=Bd.Tg ar (Ci.EQ (j:=3) d rfl rfl) am av;refine(Bd.LQ s0 Ap0 Ac0 Av0 A1 ah ag ai c1 l1 k2 A2 D2 m2 o2 l2 u2 k3 A3 D3 m3 o3 l3 u3 W (Nt.Vm hL) S0 ak S1 S2 S3).mono fun e W' ⟨he,hg⟩=>?_;subst he;have af:=fun x hx=>ad.lt x hx;have ae:=List.all_eq_true.1 params_ok;refine⟨_,rfl,_,_,_,[],_,[],ad,trodAll_cons_mk (shut_bool Tryz.underlying4 _) trodAll_mk0,Ci.CQ (by kernel_rfl) (fun t ht=>?_) aa (fun x hx=>hg.same (af x hx)) (fun x hx=>by simpa using af x hx),rfl,hg.frame _,fun h=>by cases h⟩;rw[Tryz.params3]at ht;have:=ae t (by simpa using ht)
 simpa using this
theorem laid_met(os:Os):laidMetH Tryz.prog Rows.boundJoinsRow.laid ((Nt.Dt os).forCall (fun _ _=>0) ⟨#[],#[.agg #[.slice none 0 0,.slice none 0 0,.slice none 0 0],.slice none 0 0,.agg #[.bool false,.slice none 0 0,.slice none 0 0],.agg #[.bool false,.slice none 0 0,.slice none 0 0]],[]⟩).memory:=Nt.laid_met os _
theorem reads(os:Os){H:Type}(enc:TypeId×Value->H):∃places,DataW.whole enc Tryz.prog ((Nt.Dt os).forCall (fun _ _=>0) ⟨#[],#[.agg #[.slice none 0 0,.slice none 0 0,.slice none 0 0],.slice none 0 0,.agg #[.bool false,.slice none 0 0,.slice none 0 0],.agg #[.bool false,.slice none 0 0,.slice none 0 0]],[]⟩).memory Tryz.f3.params.toList Rows.boundJoinsSpec.vars false (#[.agg #[.slice none 0 0,.slice none 0 0,.slice none 0 0],.slice none 0 0,.agg #[.bool false,.slice none 0 0,.slice none 0 0],.agg #[.bool false,.slice none 0 0,.slice none 0 0]]:Array Value).toList 8=some ([.agg [.nil,.nil,.nil],.nil,.agg [.lit (.bool false),.nil,.nil],.agg [.lit (.bool false),.nil,.nil]],[],places) :=
 ⟨[],by kernel_rfl⟩
theorem lifted(os:Os)(started:os.Started)(H:Type)(enc:TypeId×Value->H)(F:Stop.Interp):
 ReturnsInHanded {} Tryz.checked os 3 .any ((OpenSpec.ofChange Rows.boundJoinsSpec).preRow enc Tryz.prog Tryz.f3 Rows.boundJoinsRow.domain false Rows.boundJoinsRow.laid) (((OpenSpec.ofChange Rows.boundJoinsSpec).at F).post enc Tryz.prog Tryz.f3 false true false false):=by
 obtain⟨places,hx⟩:=reads os enc
 refine returnsInHanded_of_row (C:=Tryz.checked) (s:=OpenSpec.ofChange Rows.boundJoinsSpec) Nt.own started (by kernel_rfl) Tryz.func3
  (witness_row_atRef (enc:=enc) (C:=Tryz.checked) false (Nt.Dt os) #[.agg #[.slice none 0 0,.slice none 0 0,.slice none 0 0],.slice none 0 0,.agg #[.bool false,.slice none 0 0,.slice none 0 0],.agg #[.bool false,.slice none 0 0,.slice none 0 0]] rfl (Nt.TC os _) (Nt.TD os _) (by kernel_rfl)
    (OpenSpec.preRow_of_cond 8 hx (by kernel_rfl) (fun k hk=>by cases hk) (by kernel_rfl) (laid_met os))) ?_
 intro W base args ds gs before a hW _ _ d hL _ _;exact contract H enc W base args ds gs before a hW hL d
end Go.Proofs.YtmfjbpcecpgchaaGreatDoor.fnBoundJoins
