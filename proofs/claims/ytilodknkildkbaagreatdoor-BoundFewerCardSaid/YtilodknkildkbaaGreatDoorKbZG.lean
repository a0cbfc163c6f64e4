/- Texts that the proof needs: DoneBFewerA. -/
import Derived.Test.YtilodknkildkbaaGreatDoorKbA
import Derived.Test.YtilodknkildkbaaGreatDoorKbB
import Derived.Test.YtilodknkildkbaaGreatDoorKbC
import Derived.Test.YtilodknkildkbaaGreatDoorKbD
import Derived.Test.YtilodknkildkbaaGreatDoorKbE
import Derived.Test.YtilodknkildkbaaGreatDoorKbF
import Derived.Test.YtilodknkildkbaaGreatDoorKbG
import Derived.Test.YtilodknkildkbaaGreatDoorKbH
import Derived.Test.YtilodknkildkbaaGreatDoorKbI
import Derived.Test.YtilodknkildkbaaGreatDoorKbJ
import Derived.Test.YtilodknkildkbaaGreatDoorKbK
import Derived.Test.YtilodknkildkbaaGreatDoorKbY
import Derived.Test.YtilodknkildkbaaGreatDoorKbZE
import Derived.Test.YtilodknkildkbaaGreatDoorKbZF
set_option maxRecDepth 100000
namespace Go.Proofs.YtilodknkildkbaaGreatDoor.fnBoundFewer
open Go.ChangeShapes Go.WideShapes Go.ChangeAt Go.RowKit
theorem params_ok:([25,26,29,5].all fun t=>Tryz.prog.readableRec t&&decide (t<Tryz.prog.types.size))=true:=by kernel_rfl
theorem contract (H:Type) (enc:TypeId×Value→H) (W:World) (base:Nat) (args:Array Value) (ds gs:List (DataW H)) (before:List MemPlace)
 (hval:∀(j:Nat) t v,Tryz.f9.params[j]? = some t→args[j]? = some v→Value.okWide Tryz.prog W .any base t v)
 (hW:DataW.Whole enc Tryz.prog Tryz.f9.params.toList Rows.boundFewerSpec.vars false W args.toList ds gs before) (hL:laidMetH Tryz.prog Rows.boundFewerRow.laid W)
 (hsz:(DataW.weightsEach Tryz.prog (Tryz.f9.params.toList++(OpenSpec.ofChange Rows.boundFewerSpec).bare.plain.varTypes Tryz.prog) (ds++gs)).all (·≤reachBytes)=true) :
 Calls Tryz.prog 9 args W fun e W'=>∃v,e=.returned v∧Rows.boundFewerSpec.post enc Tryz.prog Tryz.f9 false true false false W args v W':=by
 have hW':=hW;obtain⟨p,q,hA0,hV,rfl,hfz,hnd⟩:=hW;have hA:DataW.TrodAll enc Tryz.prog W 0 (fun _=>true) true Tryz.f9.params.toList args.toList ds p:=hA0;rw[Tryz.params9]at hA hval hsz;obtain⟨v0,vs0,d0,ds0,p0,q0,hargs,rfl,rfl,h0,r0⟩:=trodAll_cons hA;obtain⟨v1,vs1,d1,ds1,p1,q1,rfl,rfl,rfl,h1,r1⟩:=trodAll_cons r0;obtain⟨v2,vs2,d2,ds2,p2,q2,rfl,rfl,rfl,h2,r2⟩:=trodAll_cons r1;obtain⟨v3,vs3,d3,ds3,p3,q3,rfl,rfl,rfl,h3,r3⟩:=trodAll_cons r2;obtain⟨rfl,rfl,rfl⟩:=trodAll_nil r3;obtain rfl:args=#[v0,v1,v2,v3]:=by cases args;simp_all
 obtain⟨rfl,rfl⟩:=trodVars_none hV;obtain⟨Ap0,Ac0,Av0,cp0,cc0,cv0,s0,rfl,is0,m0,n0,o0,y0,z0,q00⟩:=Ci.Kv (hval 0 25 v0 rfl rfl) h0;obtain⟨A1,c1,l1,rfl,is1,in1,_⟩:=Ci.Eh (hval 1 26 v1 rfl rfl) h1;obtain⟨k2,A2,D2,m2,o2,l2,u2,rfl,is2,in2,jn2⟩:=Bd.ES (hval 2 29 v2 rfl rfl) h2;obtain⟨x3,rfl,rfl,rfl,k3⟩:=open_int Tryz.underlying5 (hval 3 5 v3 rfl rfl) h3;have b3:0≤x3∧x3≤255:=Nt.PW k3;simp only[List.append_nil]at hW' hsz hA0;have S0:=Ci.GS is0 (Ci.Bu (j:=0) hsz rfl rfl) m0 n0 o0 y0 z0;have S1:=(Ci.Dz Tryz.underlying26 (Nat.lt_of_lt_of_eq (by decide:0<8) (by kernel_rfl)) is1 (Ci.Bu (j:=1) hsz rfl rfl)).1;have S2:=Bd.JN is2 (Ci.Bu (j:=2) hsz rfl rfl) in2 jn2;refine(Bd.Lh s0 Ap0 Ac0 Av0 A1 cp0 cc0 cv0 c1 l1 k2 A2 D2 m2 o2 l2 u2 x3 W (Nt.Jt hL) S0 in1 S1 S2 b3.1 b3.2 q00).mono fun e W' ⟨he,hg⟩=>?_;subst he;have hlt:=fun x hx=>hW'.lt x hx;have hall:=List.all_eq_true.1 params_ok;refine⟨_,rfl,_,_,_,[],_,[],hW',trodAll_cons_mk (shut_bool Tryz.underlying4 _) trodAll_mk0,Ci.Bl (by kernel_rfl) (fun t ht=>?_) hA0 (fun x hx=>hg.same (hlt x hx)) (fun x hx=>by simpa using hlt x hx),rfl,hg.frame _,fun h=>by cases h⟩;rw[Tryz.params9]at ht;have:=hall t (by simpa using ht)
 simpa using this
theorem laid_met (os:Os):laidMetH Tryz.prog Rows.boundFewerRow.laid ((Nt.AJ os).forCall (fun _ _=>0) ⟨#[],#[.agg #[.slice none 0 0,.slice none 0 0,.slice none 0 0],.slice none 0 0,.agg #[.bool false,.slice none 0 0,.slice none 0 0],.int .u8 0],[]⟩).memory:=Nt.laid_met os _
theorem reads (os:Os) {H:Type} (enc:TypeId×Value→H):∃places,DataW.whole enc Tryz.prog ((Nt.AJ os).forCall (fun _ _=>0) ⟨#[],#[.agg #[.slice none 0 0,.slice none 0 0,.slice none 0 0],.slice none 0 0,.agg #[.bool false,.slice none 0 0,.slice none 0 0],.int .u8 0],[]⟩).memory Tryz.f9.params.toList Rows.boundFewerSpec.vars false (#[.agg #[.slice none 0 0,.slice none 0 0,.slice none 0 0],.slice none 0 0,.agg #[.bool false,.slice none 0 0,.slice none 0 0],.int .u8 0]:Array Value).toList 8=some ([.agg [.nil,.nil,.nil],.nil,.agg [.lit (.bool false),.nil,.nil],.lit (.int .u8 0)],[],places) :=
 ⟨[],by kernel_rfl⟩
theorem lifted (os:Os) (started:os.Started) (H:Type) (enc:TypeId×Value→H) (F:Stop.Interp) :
 ReturnsInHanded {} Tryz.checked os 9 .any ((OpenSpec.ofChange Rows.boundFewerSpec).preRow enc Tryz.prog Tryz.f9 Rows.boundFewerRow.domain false Rows.boundFewerRow.laid) (((OpenSpec.ofChange Rows.boundFewerSpec).at F).post enc Tryz.prog Tryz.f9 false true false false):=by
 obtain⟨places,hx⟩:=reads os enc
 refine returnsInHanded_of_row (C:=Tryz.checked) (s:=OpenSpec.ofChange Rows.boundFewerSpec) Nt.own started (by kernel_rfl) Tryz.func9
  (witness_row_atRef (enc:=enc) (C:=Tryz.checked) false (Nt.AJ os) #[.agg #[.slice none 0 0,.slice none 0 0,.slice none 0 0],.slice none 0 0,.agg #[.bool false,.slice none 0 0,.slice none 0 0],.int .u8 0] rfl (Nt.GQ os _) (Nt.GR os _) (by kernel_rfl)
    (OpenSpec.preRow_of_cond 8 hx (by kernel_rfl) (fun k hk=>by cases hk) (by kernel_rfl) (laid_met os))) ?_
 intro W base args ds gs before hval hW _ _ hsz hL _ _;exact contract H enc W base args ds gs before hval hW hL hsz
end Go.Proofs.YtilodknkildkbaaGreatDoor.fnBoundFewer
