/- MoneyMatchesReference: the statement. -/
import Derived.Test.YtpmlhgmmobpilaaGreatDoorKvA
import Derived.Test.YtpmlhgmmobpilaaGreatDoorKvB
import Derived.Test.YtpmlhgmmobpilaaGreatDoorKvC
import Derived.Test.YtpmlhgmmobpilaaGreatDoorKvD
import Derived.Test.YtpmlhgmmobpilaaGreatDoorKvE
import Derived.Test.YtpmlhgmmobpilaaGreatDoorKvF
namespace Go.Proofs.YtpmlhgmmobpilaaGreatDoor.fnMoneyMatchesReference
open Go.ChangeShapes Go.WideShapes Go.ChangeAt Go.RowKit
theorem params_ok : ([33, 9, 35, 9, 3, 9].all fun t => Tryz.prog.readableRec t && decide (t < Tryz.prog.types.size)) = true := by kernel_rfl
set_option maxRecDepth 100000 in
theorem contract (H : Type) (enc : TypeId × Value → H) (W : World) (base : Nat) (args : Array Value) (ds gs : List (DataW H)) (before : List MemPlace)
    (hval : ∀ (j : Nat) t v, Tryz.f9.params[j]? = some t → args[j]? = some v → Value.okWide Tryz.prog W .any base t v)
    (hW : DataW.Whole enc Tryz.prog Tryz.f9.params.toList Rows.moneyMatchesReferenceSpec.vars false W args.toList ds gs before) (hL : laidMetH Tryz.prog Rows.moneyMatchesReferenceRow.laid W) (hsh : W.ShapedOpen Tryz.prog)
    (hsz : (DataW.weightsEach Tryz.prog (Tryz.f9.params.toList ++ (OpenSpec.ofChange Rows.moneyMatchesReferenceSpec).bare.plain.varTypes Tryz.prog) (ds ++ gs)).all (· ≤ reachBytes) = true) :
    Calls Tryz.prog 9 args W fun e W' => ∃ v, e = .returned v ∧ Rows.moneyMatchesReferenceSpec.post enc Tryz.prog Tryz.f9 false true false false W args v W' := by
  have hW' := hW
  obtain ⟨p, q, hA0, hV, rfl, hfz, hnd⟩ := hW
  have hA : DataW.TrodAll enc Tryz.prog W 0 (fun _ => true) true Tryz.f9.params.toList args.toList ds p := hA0
  rw [Tryz.params9] at hA hval hsz
  obtain ⟨v0, vs0, d0, ds0, p0, q0, hargs, rfl, rfl, h0, r0⟩ := trodAll_cons hA
  obtain ⟨v1, vs1, d1, ds1, p1, q1, rfl, rfl, rfl, h1, r1⟩ := trodAll_cons r0
  obtain ⟨v2, vs2, d2, ds2, p2, q2, rfl, rfl, rfl, h2, r2⟩ := trodAll_cons r1
  obtain ⟨v3, vs3, d3, ds3, p3, q3, rfl, rfl, rfl, h3, r3⟩ := trodAll_cons r2
  obtain ⟨v4, vs4, d4, ds4, p4, q4, rfl, rfl, rfl, h4, r4⟩ := trodAll_cons r3
  obtain ⟨v5, vs5, d5, ds5, p5, q5, rfl, rfl, rfl, h5, r5⟩ := trodAll_cons r4
  obtain ⟨rfl, rfl, rfl⟩ := trodAll_nil r5
  obtain rfl : args = #[v0, v1, v2, v3, v4, v5] := by cases args; simp_all
  obtain ⟨rfl, rfl⟩ := trodVars_none hV
  obtain ⟨A0, c0, l0, rfl, is0, in0, iz0⟩ := Mo.open_rates (hval 0 33 v0 rfl rfl) h0
  obtain ⟨s1, rfl, rfl, rfl, _⟩ := Go.ChangeMaps.open_string Tryz.underlying9 (hval 1 9 v1 rfl rfl) h1
  obtain ⟨a2, u2, rfl, rfl, rfl, _, iu2⟩ := Mo.open_amt (hval 2 35 v2 rfl rfl) h2
  have b2 : -9223372036854775808 ≤ u2 ∧ u2 ≤ 9223372036854775807 := Nt.wf_inQ iu2
  obtain ⟨s3, rfl, rfl, rfl, _⟩ := Go.ChangeMaps.open_string Tryz.underlying9 (hval 3 9 v3 rfl rfl) h3
  obtain ⟨x4, rfl, rfl, rfl, k4⟩ := open_int Tryz.underlying3 (hval 4 3 v4 rfl rfl) h4
  have b4 : -9223372036854775808 ≤ x4 ∧ x4 ≤ 9223372036854775807 := Nt.wf_inQ k4
  obtain ⟨s5, rfl, rfl, rfl, _⟩ := Go.ChangeMaps.open_string Tryz.underlying9 (hval 5 9 v5 rfl rfl) h5
  simp only [List.append_nil] at hW' hsz hA0
  have S0 := Mo.size_rates is0 iz0 (Ci.sizes_at (j := 0) hsz rfl rfl)
  have S1 := Mo.size_str hsz (j := 1) rfl rfl
  have S2 := Mo.size_amt (j := 2) hsz rfl rfl
  have S3 := Mo.size_str hsz (j := 3) rfl rfl
  have S5 := Mo.size_str hsz (j := 5) rfl rfl
  refine (Mo.law8_match l0 A0 c0 s1 a2 u2 s3 x4 s5 W (Nt.renv_of hL hsh) in0 S0.1 S0.2 S1 S2 S3 S5).mono fun e W' ⟨he, hg⟩ => ?_
  subst he
  have hlt := fun x hx => hW'.lt x hx
  have hall := List.all_eq_true.1 params_ok
  refine ⟨_, rfl, _, _, _, [], _, [], hW', trodAll_cons_mk (shut_bool Tryz.underlying4 _) trodAll_mk0, Ci.trodAll_stays (by kernel_rfl) (fun t ht => ?_) hA0 (fun x hx => hg.same (hlt x hx)) (fun x hx => by simpa using hlt x hx), rfl, hg.frame _, fun h => by cases h⟩
  rw [Tryz.params9] at ht
  have := hall t (by simpa using ht)
  simpa using this
theorem laid_met (os : Os) : laidMetH Tryz.prog Rows.moneyMatchesReferenceRow.laid ((Nt.laidWorld os).forCall (fun _ _ => 0) ⟨#[], #[.slice none 0 0, .string ⟨#[]⟩, .agg #[.string ⟨#[]⟩, .int .i64 0], .string ⟨#[]⟩, .int .i64 0, .string ⟨#[]⟩], []⟩).memory := Nt.laid_met os _
theorem reads (os : Os) {H : Type} (enc : TypeId × Value → H) : ∃ places, DataW.whole enc Tryz.prog ((Nt.laidWorld os).forCall (fun _ _ => 0) ⟨#[], #[.slice none 0 0, .string ⟨#[]⟩, .agg #[.string ⟨#[]⟩, .int .i64 0], .string ⟨#[]⟩, .int .i64 0, .string ⟨#[]⟩], []⟩).memory Tryz.f9.params.toList Rows.moneyMatchesReferenceSpec.vars false (#[.slice none 0 0, .string ⟨#[]⟩, .agg #[.string ⟨#[]⟩, .int .i64 0], .string ⟨#[]⟩, .int .i64 0, .string ⟨#[]⟩] : Array Value).toList 8 = some ([.nil, .lit (.string []), .agg [.lit (.string []), .lit (.int .i64 0)], .lit (.string []), .lit (.int .i64 0), .lit (.string [])], [], places) :=
  ⟨[], by kernel_rfl⟩
set_option maxRecDepth 100000 in
theorem lifted (os : Os) (started : os.Started) (H : Type) (enc : TypeId × Value → H) (F : Stop.Interp) :
    ReturnsInHanded {} Tryz.checked os 9 .any ((OpenSpec.ofChange Rows.moneyMatchesReferenceSpec).preRow enc Tryz.prog Tryz.f9 Rows.moneyMatchesReferenceRow.domain false Rows.moneyMatchesReferenceRow.laid) (((OpenSpec.ofChange Rows.moneyMatchesReferenceSpec).at F).post enc Tryz.prog Tryz.f9 false true false false) := by
  obtain ⟨places, hx⟩ := reads os enc
  refine returnsInHanded_of_row (C := Tryz.checked) (s := OpenSpec.ofChange Rows.moneyMatchesReferenceSpec) Nt.own started (by kernel_rfl) Tryz.func9
    (witness_row_atRef (enc := enc) (C := Tryz.checked) false (Nt.laidWorld os) #[.slice none 0 0, .string ⟨#[]⟩, .agg #[.string ⟨#[]⟩, .int .i64 0], .string ⟨#[]⟩, .int .i64 0, .string ⟨#[]⟩] rfl (Nt.vars_ok os _) (Nt.rest_ok os _) (by kernel_rfl)
      (OpenSpec.preRow_of_cond 8 hx (by kernel_rfl) (fun k hk => by cases hk) (by kernel_rfl) (laid_met os))) ?_
  intro W base args ds gs before hval hW _ _ hsz hL hsh _
  exact contract H enc W base args ds gs before hval hW hL hsh hsz
theorem said : Rows.MoneyMatchesReferenceSaid :=
  OpenClaim.holds_of_cond 9 Tryz.f9 rfl rfl rfl rfl rfl rfl rfl ⟨rfl, rfl, rfl, rfl, rfl⟩ rfl rfl rfl rfl rfl (by kernel_rfl) Tryz.func9 (by kernel_rfl)
    (of_decide_eq_true (by kernel_rfl)) (by unfold Func.isWrapper; first | (rw [if_pos (by decide +kernel)]; kernel_rfl) | (rw [if_neg (by decide +kernel)]; exact ⟨rfl, rfl⟩))
    (fun os started H enc _ F => by rw [OpenClaim.pre_eq_preRow]; exact lifted os started H enc F)
theorem plain (f : FuncId) (fn : Func) (hf : Tryz.pinned.checked.prog.funcNamed "customhouse/customhouselaw08.MoneyMatchesReference" = some f) (hfn : Tryz.pinned.checked.prog.funcs[f]? = some fn) :
    true = Tryz.pinned.checked.prog.looks [] ∧ ∀ (j : Nat) t, fn.params[j]? = some t → Tryz.pinned.checked.prog.wantsStandIn t = false := by
  obtain rfl : f = 9 := Option.some.inj ((show Tryz.prog.funcNamed "customhouse/customhouselaw08.MoneyMatchesReference" = some 9 by kernel_rfl).symm.trans hf) |>.symm
  obtain rfl : fn = Tryz.f9 := (Option.some.inj (Tryz.func9.symm.trans hfn)).symm
  refine ⟨by kernel_rfl, fun j t ht => ?_⟩
  rw [Tryz.params9] at ht
  have hm : t ∈ [33, 9, 35, 9, 3, 9] := by simpa using Array.mem_of_getElem? ht
  have hall : ([33, 9, 35, 9, 3, 9].all fun u => !Tryz.prog.wantsStandIn u) = true := by kernel_rfl
  exact (show Tryz.prog.wantsStandIn t = false by simpa using List.all_eq_true.1 hall t hm)
theorem card : Rows.MoneyMatchesReferenceCardSaid :=
  Claim7.holds_tied_plain_at .later [] _ _ _ _ said (fun _ h => by cases h) (by kernel_rfl) (fun _ h => by cases h) moneyMatchesReference_row_tie rfl ⟨rfl, rfl⟩ (by kernel_rfl) rfl plain (by kernel_rfl)
end Go.Proofs.YtpmlhgmmobpilaaGreatDoor.fnMoneyMatchesReference
