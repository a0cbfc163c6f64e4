/- Texts that the proof needs: DoneSChainsA. -/
import Derived.Test.YtioidbebjgeahaaGreatDoorKtA
import Derived.Test.YtioidbebjgeahaaGreatDoorKtB
import Derived.Test.YtioidbebjgeahaaGreatDoorKtC
import Derived.Test.YtioidbebjgeahaaGreatDoorKtD
import Derived.Test.YtioidbebjgeahaaGreatDoorKtE
import Derived.Test.YtioidbebjgeahaaGreatDoorKtF
import Derived.Test.YtioidbebjgeahaaGreatDoorKtG
import Derived.Test.YtioidbebjgeahaaGreatDoorKtH
import Derived.Test.YtioidbebjgeahaaGreatDoorKtI
import Derived.Test.YtioidbebjgeahaaGreatDoorKtU
import Derived.Test.YtioidbebjgeahaaGreatDoorKtZB
import Derived.Test.YtioidbebjgeahaaGreatDoorKtZC
import Derived.Test.YtioidbebjgeahaaGreatDoorKtZD
import Derived.Test.YtioidbebjgeahaaGreatDoorKtZE
set_option maxRecDepth 100000
namespace Go.Proofs.YtioidbebjgeahaaGreatDoor.fnShareChains
open Go.ChangeShapes Go.WideShapes Go.ChangeAt Go.RowKit
theorem params_ok:([35].all fun t=>Tryz.prog.readableRec t&&decide (t<Tryz.prog.types.size))=true:=by kernel_rfl
theorem contract (H:Type) (enc:TypeId×Value→H) (W:World) (base:Nat) (args:Array Value) (ds gs:List (DataW H)) (before:List MemPlace)
 (hval:∀(j:Nat) t v,Tryz.f4.params[j]? = some t→args[j]? = some v→Value.okWide Tryz.prog W .any base t v)
 (hW:DataW.Whole enc Tryz.prog Tryz.f4.params.toList Rows.shareChainsSpec.vars false W args.toList ds gs before) (hL:laidMetH Tryz.prog Rows.shareChainsRow.laid W)
 (hsz:(DataW.weightsEach Tryz.prog (Tryz.f4.params.toList++(OpenSpec.ofChange Rows.shareChainsSpec).bare.plain.varTypes Tryz.prog) (ds++gs)).all (·≤reachBytes)=true) :
 Calls Tryz.prog 4 args W fun e W'=>∃v,e=.returned v∧Rows.shareChainsSpec.post enc Tryz.prog Tryz.f4 false true false false W args v W':=by
 have hW':=hW;obtain⟨p,q,hA0,hV,rfl,hfz,hnd⟩:=hW;have hA:DataW.TrodAll enc Tryz.prog W 0 (fun _=>true) true Tryz.f4.params.toList args.toList ds p:=hA0;rw[Tryz.params4]at hA hval hsz;obtain⟨v0,vs0,d0,ds0,p0,q0,hargs,rfl,rfl,h0,r0⟩:=trodAll_cons hA;obtain⟨rfl,rfl,rfl⟩:=trodAll_nil r0;obtain rfl:args=#[v0]:=by cases args;simp_all
 obtain⟨rfl,rfl⟩:=trodVars_none hV;obtain⟨A0,c0,l0,rfl,is0,in0,e80⟩:=Ci.open_u8sV (hval 0 35 v0 rfl rfl) h0;simp only[List.append_nil]at hW' hsz hA0;have S0:=(Ci.size_sl Tryz.underlying35 (Nat.lt_of_lt_of_eq (by decide:0<1) (by kernel_rfl)) is0 (Ci.sizes_at (j:=0) hsz rfl rfl)).1;refine(Sh.law20_chains l0 A0 c0 W (Nt.env_of hL) in0 S0 e80).mono fun e W' ⟨he,hg⟩=>?_;subst he;have hlt:=fun x hx=>hW'.lt x hx;have hall:=List.all_eq_true.1 params_ok;refine⟨_,rfl,_,_,_,[],_,[],hW',trodAll_cons_mk (shut_bool Tryz.underlying4 _) trodAll_mk0,Ci.trodAll_stays (by kernel_rfl) (fun t ht=>?_) hA0 (fun x hx=>hg.same (hlt x hx)) (fun x hx=>by simpa using hlt x hx),rfl,hg.frame _,fun h=>by cases h⟩;rw[Tryz.params4]at ht;have:=hall t (by simpa using ht)
 simpa using this
theorem laid_met (os:Os):laidMetH Tryz.prog Rows.shareChainsRow.laid ((Nt.laidWorld os).forCall (fun _ _=>0) ⟨#[],#[.slice none 0 0],[]⟩).memory:=Nt.laid_met os _
theorem reads (os:Os) {H:Type} (enc:TypeId×Value→H):∃places,DataW.whole enc Tryz.prog ((Nt.laidWorld os).forCall (fun _ _=>0) ⟨#[],#[.slice none 0 0],[]⟩).memory Tryz.f4.params.toList Rows.shareChainsSpec.vars false (#[.slice none 0 0]:Array Value).toList 8=some ([.nil],[],places) :=
 ⟨[],by kernel_rfl⟩
theorem lifted (os:Os) (started:os.Started) (H:Type) (enc:TypeId×Value→H) (F:Stop.Interp) :
 ReturnsInHanded {} Tryz.checked os 4 .any ((OpenSpec.ofChange Rows.shareChainsSpec).preRow enc Tryz.prog Tryz.f4 Rows.shareChainsRow.domain false Rows.shareChainsRow.laid) (((OpenSpec.ofChange Rows.shareChainsSpec).at F).post enc Tryz.prog Tryz.f4 false true false false):=by
 obtain⟨places,hx⟩:=reads os enc
 refine returnsInHanded_of_row (C:=Tryz.checked) (s:=OpenSpec.ofChange Rows.shareChainsSpec) Nt.own started (by kernel_rfl) Tryz.func4
  (witness_row_atRef (enc:=enc) (C:=Tryz.checked) false (Nt.laidWorld os) #[.slice none 0 0] rfl (Nt.vars_ok os _) (Nt.rest_ok os _) (by kernel_rfl)
    (OpenSpec.preRow_of_cond 8 hx (by kernel_rfl) (fun k hk=>by cases hk) (by kernel_rfl) (laid_met os))) ?_
 intro W base args ds gs before hval hW _ _ hsz hL _ _;exact contract H enc W base args ds gs before hval hW hL hsz
end Go.Proofs.YtioidbebjgeahaaGreatDoor.fnShareChains
