/- Parts of the proof. -/
import Derived.Test.YtefmpngjjmddjaaGreatDoorKhI
set_option maxRecDepth 100000
open Go.Proofs.Tryz
namespace Go.Proofs.YtefmpngjjmddjaaGreatDoor.fnTopBounds
open Go.ChangeShapes Go.WideShapes Go.ChangeAt Go.RowKit
theorem params_ok:([32,37,53].all fun t=>prog.readableRec t&&decide (t<prog.types.size))=true:=by kernel_rfl
theorem contract(H:Type)(enc:TypeId×Value->H)(W:World)(base:Nat)(args:Array Value)(ds gs:List (DataW H))(before:List MemPlace)
 (d:∀(j:Nat) t v,Tryz.f4.params[j]? = some t->args[j]? = some v->Value.okWide prog W .any base t v)
 (hW:DataW.Whole enc prog Tryz.f4.params.toList Rows.topBoundsSpec.vars false W args.toList ds gs before)(hL:laidMetH prog Rows.topBoundsRow.laid W)
 (aa:(DataW.weightsEach prog (Tryz.f4.params.toList++(OpenSpec.ofChange Rows.topBoundsSpec).bare.plain.varTypes prog) (ds++gs)).all (·<=reachBytes)=true):
 Calls prog 4 args W fun e W'=>∃v,e=.returned v/\Rows.topBoundsSpec.post enc prog Tryz.f4 false true false false W args v W':=by
 have ae:=hW;obtain⟨p,q,ad,hV,rfl,aw,ax⟩:=hW;have hA:DataW.TrodAll enc prog W 0 (fun _=>true) true Tryz.f4.params.toList args.toList ds p:=ad;rw[Tryz.params4]at hA d aa;obtain⟨v0,ay,d0,ar,p0,q0,ak,rfl,rfl,h0,r0⟩:=trodAll_cons hA;obtain⟨v1,az,d1,au,p1,q1,rfl,rfl,rfl,h1,r1⟩:=trodAll_cons r0;obtain⟨v2,aA,d2,av,p2,q2,rfl,rfl,rfl,h2,r2⟩:=trodAll_cons r1;obtain⟨rfl,rfl,rfl⟩:=trodAll_nil r2;obtain rfl:args=#[v0,v1,v2]:=by cases args;simp_all
 obtain⟨rfl,rfl⟩:=trodVars_none hV;obtain⟨Ap0,Ac0,Av0,ai,ah,aj,s0,rfl,an,m0,n0,o0,y0,z0⟩:=Ci.Vo (d 0 32 v0 rfl rfl) h0;obtain⟨A1,c1,l1,rfl,ao,al,_⟩:=Ci.Ny (d 1 37 v1 rfl rfl) h1;obtain⟨k2,A2,D2,m2,o2,l2,u2,rfl,ap,am,aq⟩:=Bd.QR (d 2 53 v2 rfl rfl) h2;simp only[xV]at ae aa ad;have S0:=Ci.Vp an (Ci.Gk (j:=0) aa rfl rfl) m0 n0 o0 y0 z0;have S1:=(Ci.Gl underlying37 (vC (by decide:0<8) (by kernel_rfl)) ao (Ci.Gk (j:=1) aa rfl rfl)).1;have S2:=Bd.Xs ap (Ci.Gk (j:=2) aa rfl rfl) am aq;refine(Bd.ML s0 Ap0 Ac0 Av0 A1 ai ah aj c1 l1 k2 A2 D2 m2 o2 l2 u2 W (Nt.WP hL) S0 al S1 S2).mono fun e W' ⟨he,hg⟩=>?_;subst he;have ag:=fun x hx=>ae.lt x hx;have af:=List.all_eq_true.1 params_ok;refine⟨_,rfl,_,_,_,[],_,[],ae,trodAll_cons_mk (shut_bool underlying4 _) trodAll_mk0,Ci.CJ (by kernel_rfl) (fun t ht=>?_) ad (fun x hx=>hg.same (ag x hx)) (fun x hx=>by simpa using ag x hx),rfl,hg.frame _,fun h=>by cases h⟩;rw[Tryz.params4]at ht;have:=af t (by simpa using ht)
 simpa using this
theorem laid_met(os:Os):laidMetH prog Rows.topBoundsRow.laid ((Nt.Dj os).forCall (fun _ _=>0) ⟨#[],#[.agg #[.slice none 0 0,.slice none 0 0,.slice none 0 0],.slice none 0 0,.agg #[.bool false,.slice none 0 0,.slice none 0 0]],[]⟩).memory:=Nt.laid_met os _
theorem reads(os:Os){H:Type}(enc:TypeId×Value->H):∃places,DataW.whole enc prog ((Nt.Dj os).forCall (fun _ _=>0) ⟨#[],#[.agg #[.slice none 0 0,.slice none 0 0,.slice none 0 0],.slice none 0 0,.agg #[.bool false,.slice none 0 0,.slice none 0 0]],[]⟩).memory Tryz.f4.params.toList Rows.topBoundsSpec.vars false (#[.agg #[.slice none 0 0,.slice none 0 0,.slice none 0 0],.slice none 0 0,.agg #[.bool false,.slice none 0 0,.slice none 0 0]]:Array Value).toList 8=some ([.agg [.nil,.nil,.nil],.nil,.agg [.lit (.bool false),.nil,.nil]],[],places) :=
 ⟨[],by kernel_rfl⟩
theorem lifted(os:Os)(started:os.Started)(H:Type)(enc:TypeId×Value->H)(F:Stop.Interp):
 ReturnsInHanded {} Tryz.checked os 4 .any ((OpenSpec.ofChange Rows.topBoundsSpec).preRow enc prog Tryz.f4 Rows.topBoundsRow.domain false Rows.topBoundsRow.laid) (((OpenSpec.ofChange Rows.topBoundsSpec).at F).post enc prog Tryz.f4 false true false false):=by
 obtain⟨places,hx⟩:=reads os enc
 refine returnsInHanded_of_row (C:=Tryz.checked) (s:=OpenSpec.ofChange Rows.topBoundsSpec) Nt.own started (by kernel_rfl) func4
  (witness_row_atRef (enc:=enc) (C:=Tryz.checked) false (Nt.Dj os) #[.agg #[.slice none 0 0,.slice none 0 0,.slice none 0 0],.slice none 0 0,.agg #[.bool false,.slice none 0 0,.slice none 0 0]] rfl (Nt.Vb os _) (Nt.Vc os _) (by kernel_rfl)
    (OpenSpec.preRow_of_cond 8 hx (by kernel_rfl) (fun k hk=>by cases hk) (by kernel_rfl) (laid_met os))) ?_
 intro W base args ds gs before d hW _ _ h hL _ _;exact contract H enc W base args ds gs before d hW hL h
end Go.Proofs.YtefmpngjjmddjaaGreatDoor.fnTopBounds
