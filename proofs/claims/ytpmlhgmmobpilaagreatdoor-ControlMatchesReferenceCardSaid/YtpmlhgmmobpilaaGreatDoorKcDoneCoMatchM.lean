/- ControlMatchesReference: the statement. -/
import Derived.Test.YtpmlhgmmobpilaaGreatDoorKcA
import Derived.Test.YtpmlhgmmobpilaaGreatDoorKcB
import Derived.Test.YtpmlhgmmobpilaaGreatDoorKcC
import Derived.Test.YtpmlhgmmobpilaaGreatDoorKcD
import Derived.Test.YtpmlhgmmobpilaaGreatDoorKcE
import Derived.Test.YtpmlhgmmobpilaaGreatDoorKcF
import Derived.Test.YtpmlhgmmobpilaaGreatDoorKcG
import Derived.Test.YtpmlhgmmobpilaaGreatDoorKcH
import Derived.Test.YtpmlhgmmobpilaaGreatDoorKcI
import Derived.Test.YtpmlhgmmobpilaaGreatDoorKcJ
import Derived.Test.YtpmlhgmmobpilaaGreatDoorKcK
import Derived.Test.YtpmlhgmmobpilaaGreatDoorKcL
import Derived.Test.YtpmlhgmmobpilaaGreatDoorKcM
import Derived.Test.YtpmlhgmmobpilaaGreatDoorKcN
import Derived.Test.YtpmlhgmmobpilaaGreatDoorKcO
namespace Go.Proofs.YtpmlhgmmobpilaaGreatDoor.fnControlMatchesReference
open Go.ChangeShapes Go.WideShapes Go.ChangeAt Go.RowKit
theorem params_ok : ([54, 24, 3, 56].all fun t => Tryz.prog.readableRec t && decide (t < Tryz.prog.types.size)) = true := by kernel_rfl
set_option maxRecDepth 100000 in
theorem contract (H : Type) (enc : TypeId × Value → H) (W : World) (base : Nat) (args : Array Value) (ds gs : List (DataW H)) (before : List MemPlace)
    (hval : ∀ (j : Nat) t v, Tryz.f8.params[j]? = some t → args[j]? = some v → Value.okWide Tryz.prog W .any base t v)
    (hW : DataW.Whole enc Tryz.prog Tryz.f8.params.toList Rows.controlMatchesReferenceSpec.vars false W args.toList ds gs before) (hL : laidMetH Tryz.prog Rows.controlMatchesReferenceRow.laid W)
    (hsz : (DataW.weightsEach Tryz.prog (Tryz.f8.params.toList ++ (OpenSpec.ofChange Rows.controlMatchesReferenceSpec).bare.plain.varTypes Tryz.prog) (ds ++ gs)).all (· ≤ reachBytes) = true) :
    Calls Tryz.prog 8 args W fun e W' => ∃ v, e = .returned v ∧ Rows.controlMatchesReferenceSpec.post enc Tryz.prog Tryz.f8 false true false false W args v W' := by
  have hW' := hW
  obtain ⟨p, q, hA0, hV, rfl, hfz, hnd⟩ := hW
  have hA : DataW.TrodAll enc Tryz.prog W 0 (fun _ => true) true Tryz.f8.params.toList args.toList ds p := hA0
  rw [Tryz.params8] at hA hval hsz
  obtain ⟨v0, vs0, d0, ds0, p0, q0, hargs, rfl, rfl, h0, r0⟩ := trodAll_cons hA
  obtain ⟨v1, vs1, d1, ds1, p1, q1, rfl, rfl, rfl, h1, r1⟩ := trodAll_cons r0
  obtain ⟨v2, vs2, d2, ds2, p2, q2, rfl, rfl, rfl, h2, r2⟩ := trodAll_cons r1
  obtain ⟨v3, vs3, d3, ds3, p3, q3, rfl, rfl, rfl, h3, r3⟩ := trodAll_cons r2
  obtain ⟨rfl, rfl, rfl⟩ := trodAll_nil r3
  obtain rfl : args = #[v0, v1, v2, v3] := by cases args; simp_all
  obtain ⟨rfl, rfl⟩ := trodVars_none hV
  obtain ⟨Ap0, Ac0, Av0, cp0, cc0, cv0, s0, rfl, is0, m0, n0, o0, y0, z0⟩ := Ci.open_st (hval 0 54 v0 rfl rfl) h0
  obtain ⟨A1, c1, l1, rfl, is1, in1, _⟩ := Ci.open_intsV (hval 1 24 v1 rfl rfl) h1
  obtain ⟨x2, rfl, rfl, rfl, k2⟩ := open_int Tryz.underlying3 (hval 2 3 v2 rfl rfl) h2
  clear k2
  obtain ⟨Ao3, co3, Al3, cl3, lo3, lc3, rfl, is3, io3, il3⟩ := Co.open_proof (hval 3 56 v3 rfl rfl) h3
  simp only [List.append_nil] at hW' hsz hA0
  have S0 := Ci.stIn_of is0 (Ci.sizes_at (j := 0) hsz rfl rfl) m0 n0 o0 y0 z0
  have S1 := (Ci.size_sl Tryz.underlying24 (Nat.lt_of_lt_of_eq (by decide : 0 < 8) (by kernel_rfl)) is1 (Ci.sizes_at (j := 1) hsz rfl rfl)).1
  obtain ⟨So3, Sl3⟩ := Co.size_proof is3 (Ci.sizes_at (j := 3) hsz rfl rfl)
  refine (Co.lawCo_match s0 Ap0 Ac0 Av0 A1 cp0 cc0 cv0 c1 l1 x2 Ao3 Al3 co3 cl3 lo3 lc3 W (Nt.env_of hL) S0 in1 S1 io3 il3 So3 Sl3).mono fun e W' ⟨he, hg⟩ => ?_
  subst he
  have hlt := fun x hx => hW'.lt x hx
  have hall := List.all_eq_true.1 params_ok
  refine ⟨_, rfl, _, _, _, [], _, [], hW', trodAll_cons_mk (shut_bool Tryz.underlying4 _) trodAll_mk0, Ci.trodAll_stays (by kernel_rfl) (fun t ht => ?_) hA0 (fun x hx => hg.same (hlt x hx)) (fun x hx => by simpa using hlt x hx), rfl, hg.frame _, fun h => by cases h⟩
  rw [Tryz.params8] at ht
  have := hall t (by simpa using ht)
  simpa using this
theorem laid_met (os : Os) : laidMetH Tryz.prog Rows.controlMatchesReferenceRow.laid ((Nt.laidWorld os).forCall (fun _ _ => 0) ⟨#[], #[.agg #[.slice none 0 0, .slice none 0 0, .slice none 0 0], .slice none 0 0, .int .i64 0, .agg #[.slice none 0 0, .slice none 0 0]], []⟩).memory := Nt.laid_met os _
theorem reads (os : Os) {H : Type} (enc : TypeId × Value → H) : ∃ places, DataW.whole enc Tryz.prog ((Nt.laidWorld os).forCall (fun _ _ => 0) ⟨#[], #[.agg #[.slice none 0 0, .slice none 0 0, .slice none 0 0], .slice none 0 0, .int .i64 0, .agg #[.slice none 0 0, .slice none 0 0]], []⟩).memory Tryz.f8.params.toList Rows.controlMatchesReferenceSpec.vars false (#[.agg #[.slice none 0 0, .slice none 0 0, .slice none 0 0], .slice none 0 0, .int .i64 0, .agg #[.slice none 0 0, .slice none 0 0]] : Array Value).toList 8 = some ([.agg [.nil, .nil, .nil], .nil, .lit (.int .i64 0), .agg [.nil, .nil]], [], places) :=
  ⟨[], by kernel_rfl⟩
set_option maxRecDepth 100000 in
theorem lifted (os : Os) (started : os.Started) (H : Type) (enc : TypeId × Value → H) (F : Stop.Interp) :
    ReturnsInHanded {} Tryz.checked os 8 .any ((OpenSpec.ofChange Rows.controlMatchesReferenceSpec).preRow enc Tryz.prog Tryz.f8 Rows.controlMatchesReferenceRow.domain false Rows.controlMatchesReferenceRow.laid) (((OpenSpec.ofChange Rows.controlMatchesReferenceSpec).at F).post enc Tryz.prog Tryz.f8 false true false false) := by
  obtain ⟨places, hx⟩ := reads os enc
  refine returnsInHanded_of_row (C := Tryz.checked) (s := OpenSpec.ofChange Rows.controlMatchesReferenceSpec) Nt.own started (by kernel_rfl) Tryz.func8
    (witness_row_atRef (enc := enc) (C := Tryz.checked) false (Nt.laidWorld os) #[.agg #[.slice none 0 0, .slice none 0 0, .slice none 0 0], .slice none 0 0, .int .i64 0, .agg #[.slice none 0 0, .slice none 0 0]] rfl (Nt.vars_ok os _) (Nt.rest_ok os _) (by kernel_rfl)
      (OpenSpec.preRow_of_cond 8 hx (by kernel_rfl) (fun k hk => by cases hk) (by kernel_rfl) (laid_met os))) ?_
  intro W base args ds gs before hval hW _ _ hsz hL _ _
  exact contract H enc W base args ds gs before hval hW hL hsz
theorem said : Rows.ControlMatchesReferenceSaid :=
  OpenClaim.holds_of_cond 8 Tryz.f8 rfl rfl rfl rfl rfl rfl rfl ⟨rfl, rfl, rfl, rfl, rfl⟩ rfl rfl rfl rfl rfl (by kernel_rfl) Tryz.func8 (by kernel_rfl)
    (of_decide_eq_true (by kernel_rfl)) (by unfold Func.isWrapper; first | (rw [if_pos (by decide +kernel)]; kernel_rfl) | (rw [if_neg (by decide +kernel)]; exact ⟨rfl, rfl⟩))
    (fun os started H enc _ F => by rw [OpenClaim.pre_eq_preRow]; exact lifted os started H enc F)
theorem plain (f : FuncId) (fn : Func) (hf : Tryz.pinned.checked.prog.funcNamed "customhouse/customhouselaw22.ControlMatchesReference" = some f) (hfn : Tryz.pinned.checked.prog.funcs[f]? = some fn) :
    true = Tryz.pinned.checked.prog.looks [] ∧ ∀ (j : Nat) t, fn.params[j]? = some t → Tryz.pinned.checked.prog.wantsStandIn t = false := by
  obtain rfl : f = 8 := Option.some.inj ((show Tryz.prog.funcNamed "customhouse/customhouselaw22.ControlMatchesReference" = some 8 by kernel_rfl).symm.trans hf) |>.symm
  obtain rfl : fn = Tryz.f8 := (Option.some.inj (Tryz.func8.symm.trans hfn)).symm
  refine ⟨by kernel_rfl, fun j t ht => ?_⟩
  rw [Tryz.params8] at ht
  have hm : t ∈ [54, 24, 3, 56] := by simpa using Array.mem_of_getElem? ht
  have hall : ([54, 24, 3, 56].all fun u => !Tryz.prog.wantsStandIn u) = true := by kernel_rfl
  exact (show Tryz.prog.wantsStandIn t = false by simpa using List.all_eq_true.1 hall t hm)
theorem card : Rows.ControlMatchesReferenceCardSaid :=
  Claim7.holds_tied_plain_at .later [] _ _ _ _ said (fun _ h => by cases h) (by kernel_rfl) (fun _ h => by cases h) controlMatchesReference_row_tie rfl ⟨rfl, rfl⟩ (by kernel_rfl) rfl plain (by kernel_rfl)
end Go.Proofs.YtpmlhgmmobpilaaGreatDoor.fnControlMatchesReference
