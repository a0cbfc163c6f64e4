/- MoneySplitsMatch: the statement. -/
import Derived.Test.YtpmlhgmmobpilaaGreatDoorKvA
import Derived.Test.YtpmlhgmmobpilaaGreatDoorKvB
import Derived.Test.YtpmlhgmmobpilaaGreatDoorKvC
import Derived.Test.YtpmlhgmmobpilaaGreatDoorKvD
import Derived.Test.YtpmlhgmmobpilaaGreatDoorKvE
import Derived.Test.YtpmlhgmmobpilaaGreatDoorKvF
namespace Go.Proofs.YtpmlhgmmobpilaaGreatDoor.fnMoneySplitsMatch
open Go.ChangeShapes Go.WideShapes Go.ChangeAt Go.RowKit
theorem params_ok : ([23, 3, 24].all fun t => Tryz.prog.readableRec t && decide (t < Tryz.prog.types.size)) = true := by kernel_rfl
set_option maxRecDepth 100000 in
theorem contract (H : Type) (enc : TypeId × Value → H) (W : World) (base : Nat) (args : Array Value) (ds gs : List (DataW H)) (before : List MemPlace)
    (hval : ∀ (j : Nat) t v, Tryz.f3.params[j]? = some t → args[j]? = some v → Value.okWide Tryz.prog W .any base t v)
    (hW : DataW.Whole enc Tryz.prog Tryz.f3.params.toList Rows.moneySplitsMatchSpec.vars false W args.toList ds gs before) (hL : laidMetH Tryz.prog Rows.moneySplitsMatchRow.laid W)
    (hsz : (DataW.weightsEach Tryz.prog (Tryz.f3.params.toList ++ (OpenSpec.ofChange Rows.moneySplitsMatchSpec).bare.plain.varTypes Tryz.prog) (ds ++ gs)).all (· ≤ reachBytes) = true) :
    Calls Tryz.prog 3 args W fun e W' => ∃ v, e = .returned v ∧ Rows.moneySplitsMatchSpec.post enc Tryz.prog Tryz.f3 false true false false W args v W' := by
  have hW' := hW
  obtain ⟨p, q, hA0, hV, rfl, hfz, hnd⟩ := hW
  have hA : DataW.TrodAll enc Tryz.prog W 0 (fun _ => true) true Tryz.f3.params.toList args.toList ds p := hA0
  rw [Tryz.params3] at hA hval hsz
  obtain ⟨v0, vs0, d0, ds0, p0, q0, hargs, rfl, rfl, h0, r0⟩ := trodAll_cons hA
  obtain ⟨v1, vs1, d1, ds1, p1, q1, rfl, rfl, rfl, h1, r1⟩ := trodAll_cons r0
  obtain ⟨v2, vs2, d2, ds2, p2, q2, rfl, rfl, rfl, h2, r2⟩ := trodAll_cons r1
  obtain ⟨rfl, rfl, rfl⟩ := trodAll_nil r2
  obtain rfl : args = #[v0, v1, v2] := by cases args; simp_all
  obtain ⟨rfl, rfl⟩ := trodVars_none hV
  obtain ⟨g0, n0, e0, rfl, rfl, rfl, _, _⟩ := Nt.open_q (hval 0 23 v0 rfl rfl) h0
  obtain ⟨x1, rfl, rfl, rfl, k1⟩ := open_int Tryz.underlying3 (hval 1 3 v1 rfl rfl) h1
  have b1 : -9223372036854775808 ≤ x1 ∧ x1 ≤ 9223372036854775807 := Nt.wf_inQ k1
  obtain ⟨A2, c2, l2, rfl, is2, in2, _⟩ := Ci.open_intsV (hval 2 24 v2 rfl rfl) h2
  simp only [List.append_nil] at hW' hsz hA0
  have S0 := Nt.size_q hsz (show _ = some 23 from rfl) (show _[0]? = _ from rfl)
  have S2 := (Ci.size_sl Tryz.underlying24 (Nat.lt_of_lt_of_eq (by decide : 0 < 8) (by kernel_rfl)) is2 (Ci.sizes_at (j := 2) hsz rfl rfl)).1
  refine (Mo.law8_splitsm g0 n0 e0 x1 A2 c2 l2 W (Nt.env_of hL) S0.1 S0.2 in2 S2).mono fun e W' ⟨he, hg⟩ => ?_
  subst he
  have hlt := fun x hx => hW'.lt x hx
  have hall := List.all_eq_true.1 params_ok
  refine ⟨_, rfl, _, _, _, [], _, [], hW', trodAll_cons_mk (shut_bool Tryz.underlying4 _) trodAll_mk0, Ci.trodAll_stays (by kernel_rfl) (fun t ht => ?_) hA0 (fun x hx => hg.same (hlt x hx)) (fun x hx => by simpa using hlt x hx), rfl, hg.frame _, fun h => by cases h⟩
  rw [Tryz.params3] at ht
  have := hall t (by simpa using ht)
  simpa using this
theorem laid_met (os : Os) : laidMetH Tryz.prog Rows.moneySplitsMatchRow.laid ((Nt.laidWorld os).forCall (fun _ _ => 0) ⟨#[], #[.agg #[.bool false, .string ⟨#[]⟩, .string ⟨#[]⟩], .int .i64 0, .slice none 0 0], []⟩).memory := Nt.laid_met os _
theorem reads (os : Os) {H : Type} (enc : TypeId × Value → H) : ∃ places, DataW.whole enc Tryz.prog ((Nt.laidWorld os).forCall (fun _ _ => 0) ⟨#[], #[.agg #[.bool false, .string ⟨#[]⟩, .string ⟨#[]⟩], .int .i64 0, .slice none 0 0], []⟩).memory Tryz.f3.params.toList Rows.moneySplitsMatchSpec.vars false (#[.agg #[.bool false, .string ⟨#[]⟩, .string ⟨#[]⟩], .int .i64 0, .slice none 0 0] : Array Value).toList 8 = some ([.agg [.lit (.bool false), .lit (.string []), .lit (.string [])], .lit (.int .i64 0), .nil], [], places) :=
  ⟨[], by kernel_rfl⟩
set_option maxRecDepth 100000 in
theorem lifted (os : Os) (started : os.Started) (H : Type) (enc : TypeId × Value → H) (F : Stop.Interp) :
    ReturnsInHanded {} Tryz.checked os 3 .any ((OpenSpec.ofChange Rows.moneySplitsMatchSpec).preRow enc Tryz.prog Tryz.f3 Rows.moneySplitsMatchRow.domain false Rows.moneySplitsMatchRow.laid) (((OpenSpec.ofChange Rows.moneySplitsMatchSpec).at F).post enc Tryz.prog Tryz.f3 false true false false) := by
  obtain ⟨places, hx⟩ := reads os enc
  refine returnsInHanded_of_row (C := Tryz.checked) (s := OpenSpec.ofChange Rows.moneySplitsMatchSpec) Nt.own started (by kernel_rfl) Tryz.func3
    (witness_row_atRef (enc := enc) (C := Tryz.checked) false (Nt.laidWorld os) #[.agg #[.bool false, .string ⟨#[]⟩, .string ⟨#[]⟩], .int .i64 0, .slice none 0 0] rfl (Nt.vars_ok os _) (Nt.rest_ok os _) (by kernel_rfl)
      (OpenSpec.preRow_of_cond 8 hx (by kernel_rfl) (fun k hk => by cases hk) (by kernel_rfl) (laid_met os))) ?_
  intro W base args ds gs before hval hW _ _ hsz hL _ _
  exact contract H enc W base args ds gs before hval hW hL hsz
theorem said : Rows.MoneySplitsMatchSaid :=
  OpenClaim.holds_of_cond 3 Tryz.f3 rfl rfl rfl rfl rfl rfl rfl ⟨rfl, rfl, rfl, rfl, rfl⟩ rfl rfl rfl rfl rfl (by kernel_rfl) Tryz.func3 (by kernel_rfl)
    (of_decide_eq_true (by kernel_rfl)) (by unfold Func.isWrapper; first | (rw [if_pos (by decide +kernel)]; kernel_rfl) | (rw [if_neg (by decide +kernel)]; exact ⟨rfl, rfl⟩))
    (fun os started H enc _ F => by rw [OpenClaim.pre_eq_preRow]; exact lifted os started H enc F)
theorem plain (f : FuncId) (fn : Func) (hf : Tryz.pinned.checked.prog.funcNamed "customhouse/customhouselaw08.MoneySplitsMatch" = some f) (hfn : Tryz.pinned.checked.prog.funcs[f]? = some fn) :
    true = Tryz.pinned.checked.prog.looks [] ∧ ∀ (j : Nat) t, fn.params[j]? = some t → Tryz.pinned.checked.prog.wantsStandIn t = false := by
  obtain rfl : f = 3 := Option.some.inj ((show Tryz.prog.funcNamed "customhouse/customhouselaw08.MoneySplitsMatch" = some 3 by kernel_rfl).symm.trans hf) |>.symm
  obtain rfl : fn = Tryz.f3 := (Option.some.inj (Tryz.func3.symm.trans hfn)).symm
  refine ⟨by kernel_rfl, fun j t ht => ?_⟩
  rw [Tryz.params3] at ht
  have hm : t ∈ [23, 3, 24] := by simpa using Array.mem_of_getElem? ht
  have hall : ([23, 3, 24].all fun u => !Tryz.prog.wantsStandIn u) = true := by kernel_rfl
  exact (show Tryz.prog.wantsStandIn t = false by simpa using List.all_eq_true.1 hall t hm)
theorem card : Rows.MoneySplitsMatchCardSaid :=
  Claim7.holds_tied_plain_at .later [] _ _ _ _ said (fun _ h => by cases h) (by kernel_rfl) (fun _ h => by cases h) moneySplitsMatch_row_tie rfl ⟨rfl, rfl⟩ (by kernel_rfl) rfl plain (by kernel_rfl)
end Go.Proofs.YtpmlhgmmobpilaaGreatDoor.fnMoneySplitsMatch
