/- RatioTextsMatch: the walk. -/
import Derived.Test.YtjahnkeafaebdaaGreatDoorRatDuo
import Derived.Test.YtjahnkeafaebdaaGreatDoorRRef2
namespace Go.Proofs.YtjahnkeafaebdaaGreatDoor
open Go.RowKit Go.Shelf
namespace Nt

set_option maxRecDepth 100000 in
set_option maxHeartbeats 4000000 in
theorem rtmatch_bad0 (g1 ng : Bool) (n1 d1 nu de t : ByteArray) (hs : shortB 320 [(n1, d1)] = false)  (w : World) (hE : REnv w) :
    Calls Tryz.prog 9 #[.agg #[.bool g1, .string n1, .string d1], .bool ng, .string nu, .string de, .string t] w fun e w' => e = .returned (.bool true) ∧ Below w.heap.size w w' := by
  replace hE := Lib.hid hE
  replace hs := Lib.hid hs
  go_enter Tryz.func9, Tryz.ntmps9
  go_wp2_with fail
  refine (rhead_any _ (hE.out.below (uniW_below w g1 n1 d1))).mono ?_
  rintro e w0 ⟨rfl, hb⟩
  have qa := Lib.hid ((B3.new w g1 n1 d1).below hb)
  have hB := Lib.hid ((uniW_below w g1 n1 d1).trans (hb.mono (uniW_below w g1 n1 d1).size))
  clear hb
  obtain ⟨a1, a2, a3, a4, a5, a6⟩ := qa.out.facts
  have a7 := qa.out.lt
  go_wp2_with fail
  refine (short_any 320 [(n1, d1)] w0.heap.size 1 _ (by simp) (raws1 w0 g1 n1 d1)).mono ?_
  rintro e wx ⟨rfl, rfl⟩
  rw [hs.out]
  clear a1 a2 a3 a4 a5 a6 a7
  obtain ⟨w1, hw1⟩ : ∃ W, W = w0.alloc (.cells #[.bool g1, .string n1, .string d1] 23) := ⟨_, rfl⟩
  rw [← hw1]
  replace qa := qa.out.alloc (.cells #[.bool g1, .string n1, .string d1] 23)
  replace hB := Lib.hid (hB.out.alloc hB.out.size (.cells #[.bool g1, .string n1, .string d1] 23))
  rw [← hw1] at hB qa
  replace qa := Lib.hid qa
  clear hw1
  go_wp2
  go_ret
  exact ⟨rfl, hB.out⟩

set_option maxRecDepth 100000 in
set_option maxHeartbeats 4000000 in
theorem rtmatch_bad1 (g1 ng : Bool) (n1 d1 nu de t : ByteArray) (hs : shortB 320 [(n1, d1)] = true) (h2 : 320 < nu.size) (w : World) (hE : REnv w) :
    Calls Tryz.prog 9 #[.agg #[.bool g1, .string n1, .string d1], .bool ng, .string nu, .string de, .string t] w fun e w' => e = .returned (.bool true) ∧ Below w.heap.size w w' := by
  replace hE := Lib.hid hE
  replace hs := Lib.hid hs
  go_enter Tryz.func9, Tryz.ntmps9
  go_wp2_with fail
  refine (rhead_any _ (hE.out.below (uniW_below w g1 n1 d1))).mono ?_
  rintro e w0 ⟨rfl, hb⟩
  have qa := Lib.hid ((B3.new w g1 n1 d1).below hb)
  have hB := Lib.hid ((uniW_below w g1 n1 d1).trans (hb.mono (uniW_below w g1 n1 d1).size))
  clear hb
  obtain ⟨a1, a2, a3, a4, a5, a6⟩ := qa.out.facts
  have a7 := qa.out.lt
  go_wp2_with fail
  refine (short_any 320 [(n1, d1)] w0.heap.size 1 _ (by simp) (raws1 w0 g1 n1 d1)).mono ?_
  rintro e wx ⟨rfl, rfl⟩
  rw [hs.out]
  clear a1 a2 a3 a4 a5 a6 a7
  obtain ⟨w1, hw1⟩ : ∃ W, W = w0.alloc (.cells #[.bool g1, .string n1, .string d1] 23) := ⟨_, rfl⟩
  rw [← hw1]
  replace qa := qa.out.alloc (.cells #[.bool g1, .string n1, .string d1] 23)
  replace hB := Lib.hid (hB.out.alloc hB.out.size (.cells #[.bool g1, .string n1, .string d1] 23))
  rw [← hw1] at hB qa
  replace qa := Lib.hid qa
  clear hw1
  go_wp2
  go_ret
  exact ⟨rfl, hB.out⟩

set_option maxRecDepth 100000 in
set_option maxHeartbeats 4000000 in
theorem rtmatch_bad2 (g1 ng : Bool) (n1 d1 nu de t : ByteArray) (hs : shortB 320 [(n1, d1)] = true) (h2 : nu.size ≤ 320) (h3 : 320 < de.size) (w : World) (hE : REnv w) :
    Calls Tryz.prog 9 #[.agg #[.bool g1, .string n1, .string d1], .bool ng, .string nu, .string de, .string t] w fun e w' => e = .returned (.bool true) ∧ Below w.heap.size w w' := by
  replace hE := Lib.hid hE
  replace hs := Lib.hid hs
  go_enter Tryz.func9, Tryz.ntmps9
  go_wp2_with fail
  refine (rhead_any _ (hE.out.below (uniW_below w g1 n1 d1))).mono ?_
  rintro e w0 ⟨rfl, hb⟩
  have qa := Lib.hid ((B3.new w g1 n1 d1).below hb)
  have hB := Lib.hid ((uniW_below w g1 n1 d1).trans (hb.mono (uniW_below w g1 n1 d1).size))
  clear hb
  obtain ⟨a1, a2, a3, a4, a5, a6⟩ := qa.out.facts
  have a7 := qa.out.lt
  go_wp2_with fail
  refine (short_any 320 [(n1, d1)] w0.heap.size 1 _ (by simp) (raws1 w0 g1 n1 d1)).mono ?_
  rintro e wx ⟨rfl, rfl⟩
  rw [hs.out]
  clear a1 a2 a3 a4 a5 a6 a7
  obtain ⟨w1, hw1⟩ : ∃ W, W = w0.alloc (.cells #[.bool g1, .string n1, .string d1] 23) := ⟨_, rfl⟩
  rw [← hw1]
  replace qa := qa.out.alloc (.cells #[.bool g1, .string n1, .string d1] 23)
  replace hB := Lib.hid (hB.out.alloc hB.out.size (.cells #[.bool g1, .string n1, .string d1] 23))
  rw [← hw1] at hB qa
  replace qa := Lib.hid qa
  clear hw1
  go_wp2
  go_ret
  exact ⟨rfl, hB.out⟩

set_option maxRecDepth 100000 in
set_option maxHeartbeats 4000000 in
theorem rtmatch_bad3 (g1 ng : Bool) (n1 d1 nu de t : ByteArray) (hs : shortB 320 [(n1, d1)] = true) (h2 : nu.size ≤ 320) (h3 : de.size ≤ 320) (h4 : 620 < t.size) (w : World) (hE : REnv w) :
    Calls Tryz.prog 9 #[.agg #[.bool g1, .string n1, .string d1], .bool ng, .string nu, .string de, .string t] w fun e w' => e = .returned (.bool true) ∧ Below w.heap.size w w' := by
  replace hE := Lib.hid hE
  replace hs := Lib.hid hs
  go_enter Tryz.func9, Tryz.ntmps9
  go_wp2_with fail
  refine (rhead_any _ (hE.out.below (uniW_below w g1 n1 d1))).mono ?_
  rintro e w0 ⟨rfl, hb⟩
  have qa := Lib.hid ((B3.new w g1 n1 d1).below hb)
  have hB := Lib.hid ((uniW_below w g1 n1 d1).trans (hb.mono (uniW_below w g1 n1 d1).size))
  clear hb
  obtain ⟨a1, a2, a3, a4, a5, a6⟩ := qa.out.facts
  have a7 := qa.out.lt
  go_wp2_with fail
  refine (short_any 320 [(n1, d1)] w0.heap.size 1 _ (by simp) (raws1 w0 g1 n1 d1)).mono ?_
  rintro e wx ⟨rfl, rfl⟩
  rw [hs.out]
  clear a1 a2 a3 a4 a5 a6 a7
  obtain ⟨w1, hw1⟩ : ∃ W, W = w0.alloc (.cells #[.bool g1, .string n1, .string d1] 23) := ⟨_, rfl⟩
  rw [← hw1]
  replace qa := qa.out.alloc (.cells #[.bool g1, .string n1, .string d1] 23)
  replace hB := Lib.hid (hB.out.alloc hB.out.size (.cells #[.bool g1, .string n1, .string d1] 23))
  rw [← hw1] at hB qa
  replace qa := Lib.hid qa
  clear hw1
  go_wp2
  go_ret
  exact ⟨rfl, hB.out⟩

set_option maxRecDepth 100000 in
set_option maxHeartbeats 4000000 in
theorem rtmatch_go (g1 ng : Bool) (n1 d1 nu de t : ByteArray) (hs : shortB 320 [(n1, d1)] = true) (h2 : nu.size ≤ 320) (h3 : de.size ≤ 320) (h4 : t.size ≤ 620) (rm rp : Bool) (sm um st sp pp : ByteArray) (em et ep : Int) (w : World) (hE : REnv w)
    (km : ∀ W, Env W → Calls Tryz.prog 31 #[.bool ng, .string nu, .string de] W fun e w' => e = .returned (.tuple #[.agg #[.bool rm, .string sm, .string um], .int .i64 em]) ∧ Below W.heap.size W w')
    (lm : ∀ W, Calls Tryz.prog 32 #[.bool ng, .string nu, .string de] W fun e w' => e = .returned (.tuple #[.agg #[.bool rm, .string sm, .string um], .int .i64 em]) ∧ Below W.heap.size W w')
    (kt : ∀ W, Env W → Calls Tryz.prog 29 #[.agg #[.bool g1, .string n1, .string d1]] W fun e w' => e = .returned (.tuple #[.string st, .int .i64 et]) ∧ Below W.heap.size W w')
    (lt : ∀ W, Calls Tryz.prog 33 #[.agg #[.bool g1, .string n1, .string d1]] W fun e w' => e = .returned (.tuple #[.string st, .int .i64 et]) ∧ Below W.heap.size W w')
    (kp : ∀ W, REnv W → Calls Tryz.prog 30 #[.string t] W fun e w' => e = .returned (.tuple #[.agg #[.bool rp, .string sp, .string pp], .int .i64 ep]) ∧ Below W.heap.size W w')
    (lp : ∀ W, Calls Tryz.prog 34 #[.string t] W fun e w' => e = .returned (.tuple #[.agg #[.bool rp, .string sp, .string pp], .int .i64 ep]) ∧ Below W.heap.size W w') :
    Calls Tryz.prog 9 #[.agg #[.bool g1, .string n1, .string d1], .bool ng, .string nu, .string de, .string t] w fun e w' => e = .returned (.bool true) ∧ Below w.heap.size w w' := by
  replace hE := Lib.hid hE
  replace hs := Lib.hid hs
  replace km := Lib.hid km
  replace lm := Lib.hid lm
  replace kt := Lib.hid kt
  replace lt := Lib.hid lt
  replace kp := Lib.hid kp
  replace lp := Lib.hid lp
  go_enter Tryz.func9, Tryz.ntmps9
  go_wp2_with fail
  refine (rhead_any _ (hE.out.below (uniW_below w g1 n1 d1))).mono ?_
  rintro e w0 ⟨rfl, hb⟩
  have qa := Lib.hid ((B3.new w g1 n1 d1).below hb)
  have hB := Lib.hid ((uniW_below w g1 n1 d1).trans (hb.mono (uniW_below w g1 n1 d1).size))
  clear hb
  obtain ⟨a1, a2, a3, a4, a5, a6⟩ := qa.out.facts
  have a7 := qa.out.lt
  go_wp2_with fail
  refine (short_any 320 [(n1, d1)] w0.heap.size 1 _ (by simp) (raws1 w0 g1 n1 d1)).mono ?_
  rintro e wx ⟨rfl, rfl⟩
  rw [hs.out]
  clear a1 a2 a3 a4 a5 a6 a7
  obtain ⟨w1, hw1⟩ : ∃ W, W = w0.alloc (.cells #[.bool g1, .string n1, .string d1] 23) := ⟨_, rfl⟩
  rw [← hw1]
  replace qa := qa.out.alloc (.cells #[.bool g1, .string n1, .string d1] 23)
  replace hB := Lib.hid (hB.out.alloc hB.out.size (.cells #[.bool g1, .string n1, .string d1] 23))
  rw [← hw1] at hB qa
  replace qa := Lib.hid qa
  clear hw1
  go_wp2_with fail
  have hBp : Hid (Below w.heap.size w w1) := hB.out
  refine (km.out _ (hE.out.below hBp.out).1).mono ?_
  rintro e w2 ⟨rfl, hb⟩
  replace qa := Lib.hid (qa.out.below hb)
  replace hB := Lib.hid (hBp.out.trans (hb.mono hBp.out.size))
  clear hb hBp
  go_wp2_with fail
  have hBp : Hid (Below w.heap.size w (w2.alloc (.cells #[.bool rm, .string sm, .string um] 23))) := (hB.out.alloc hB.out.size _)
  refine (lm.out _).mono ?_
  rintro e w3 ⟨rfl, hb⟩
  replace qa := Lib.hid ((qa.out.alloc _).below hb)
  have qx := Lib.hid ((B3.new w2 rm sm um).below hb)
  replace hB := Lib.hid (hBp.out.trans (hb.mono hBp.out.size))
  clear hb hBp
  obtain ⟨a1, a2, a3, a4, a5, a6⟩ := qa.out.facts
  have a7 := qa.out.lt
  go_wp2_with fail
  have hBp : Hid (Below w.heap.size w (w3.alloc (.cells #[.bool rm, .string sm, .string um] 23))) := (hB.out.alloc hB.out.size _)
  refine (kt.out _ (hE.out.below hBp.out).1).mono ?_
  rintro e w4 ⟨rfl, hb⟩
  clear a1 a2 a3 a4 a5 a6 a7
  replace qa := Lib.hid ((qa.out.alloc _).below hb)
  replace qx := Lib.hid ((qx.out.alloc _).below hb)
  have qy := Lib.hid ((B3.new w3 rm sm um).below hb)
  replace hB := Lib.hid (hBp.out.trans (hb.mono hBp.out.size))
  clear hb hBp
  obtain ⟨a1, a2, a3, a4, a5, a6⟩ := qa.out.facts
  have a7 := qa.out.lt
  go_wp2_with fail
  have hBp : Hid (Below w.heap.size w w4) := hB.out
  refine (lt.out _).mono ?_
  rintro e w5 ⟨rfl, hb⟩
  clear a1 a2 a3 a4 a5 a6 a7
  replace qa := Lib.hid (qa.out.below hb)
  replace qx := Lib.hid (qx.out.below hb)
  replace qy := Lib.hid (qy.out.below hb)
  replace hB := Lib.hid (hBp.out.trans (hb.mono hBp.out.size))
  clear hb hBp
  go_wp2_with fail
  have hBp : Hid (Below w.heap.size w w5) := hB.out
  refine (kp.out _ (hE.out.below hBp.out)).mono ?_
  rintro e w6 ⟨rfl, hb⟩
  replace qa := Lib.hid (qa.out.below hb)
  replace qx := Lib.hid (qx.out.below hb)
  replace qy := Lib.hid (qy.out.below hb)
  replace hB := Lib.hid (hBp.out.trans (hb.mono hBp.out.size))
  clear hb hBp
  go_wp2_with fail
  have hBp : Hid (Below w.heap.size w (w6.alloc (.cells #[.bool rp, .string sp, .string pp] 23))) := (hB.out.alloc hB.out.size _)
  refine (lp.out _).mono ?_
  rintro e w7 ⟨rfl, hb⟩
  replace qa := Lib.hid ((qa.out.alloc _).below hb)
  replace qx := Lib.hid ((qx.out.alloc _).below hb)
  replace qy := Lib.hid ((qy.out.alloc _).below hb)
  have qu := Lib.hid ((B3.new w6 rp sp pp).below hb)
  replace hB := Lib.hid (hBp.out.trans (hb.mono hBp.out.size))
  clear hb hBp
  obtain ⟨x1, x2, x3, x4, x5, x6⟩ := qx.out.facts
  have x7 := qx.out.lt
  obtain ⟨y1, y2, y3, y4, y5, y6⟩ := qy.out.facts
  have y7 := qy.out.lt
  obtain ⟨u1, u2, u3, u4, u5, u6⟩ := qu.out.facts
  have u7 := qu.out.lt
  go_wp2
  go_ret
  exact ⟨rfl, (hB.out.alloc hB.out.size _)⟩

theorem both_make (ng : Bool) (nu de : ByteArray) (h2 : nu.size ≤ 320) (h3 : de.size ≤ 320) : ∃ (rm : Bool) (sm um : ByteArray) (em : Int), (∀ W, Env W → Calls Tryz.prog 31 #[.bool ng, .string nu, .string de] W fun e w' => e = .returned (.tuple #[.agg #[.bool rm, .string sm, .string um], .int .i64 em]) ∧ Below W.heap.size W w') ∧ (∀ W, Calls Tryz.prog 32 #[.bool ng, .string nu, .string de] W fun e w' => e = .returned (.tuple #[.agg #[.bool rm, .string sm, .string um], .int .i64 em]) ∧ Below W.heap.size W w') := by
  cases h1 : isN nu with
  | false => exact ⟨_, _, _, _, fun W hW => Make_bad1 ng nu de W hW (by omega) h1, fun W => RRMake_bad1 ng nu de W (by omega) h1⟩
  | true =>
    cases h2' : isN de with
    | false => exact ⟨_, _, _, _, fun W hW => Make_bad2 ng nu de W hW (by omega) (by omega) h1 h2', fun W => RRMake_bad2 ng nu de W (by omega) (by omega) h1 h2'⟩
    | true =>
      obtain ⟨a, ha, rfl⟩ := of_isN h1
      obtain ⟨b, hb, rfl⟩ := of_isN h2'
      by_cases hb0 : b = 0
      · subst hb0
        exact ⟨_, _, _, _, fun W hW => Make_zero ng a W hW ha, fun W => RRMake_zero ng a W ha⟩
      · exact ⟨_, _, _, _, fun W hW => Make_good ng a b W hW ha hb hb0, fun W => RRMake_good ng a b W ha hb hb0⟩
theorem both_text (g1 : Bool) (n1 d1 : ByteArray) (s1 : n1.size ≤ 320) (s2 : d1.size ≤ 320) : ∃ (st : ByteArray) (et : Int), (∀ W, Env W → Calls Tryz.prog 29 #[.agg #[.bool g1, .string n1, .string d1]] W fun e w' => e = .returned (.tuple #[.string st, .int .i64 et]) ∧ Below W.heap.size W w') ∧ (∀ W, Calls Tryz.prog 33 #[.agg #[.bool g1, .string n1, .string d1]] W fun e w' => e = .returned (.tuple #[.string st, .int .i64 et]) ∧ Below W.heap.size W w') := by
  have lv := fun W => RRValid_any g1 n1 d1 W (by omega) (by omega)
  cases hv : validB g1 n1 d1 with
  | false =>
    rw [hv] at lv
    exact ⟨_, _, fun W hW => Text_bad g1 n1 d1 W hW (by omega) (by omega) hv, fun W => RRText_bad g1 n1 d1 W lv⟩
  | true =>
    rw [hv] at lv
    exact ⟨_, _, fun W hW => Text_good g1 n1 d1 W hW (by omega) (by omega) hv, fun W => RRText_good g1 n1 d1 W (by omega) (by omega) lv⟩
theorem both_parse (t : ByteArray) (h4 : t.size ≤ 620) : ∃ (rp : Bool) (sp pp : ByteArray) (ep : Int), (∀ W, REnv W → Calls Tryz.prog 30 #[.string t] W fun e w' => e = .returned (.tuple #[.agg #[.bool rp, .string sp, .string pp], .int .i64 ep]) ∧ Below W.heap.size W w') ∧ (∀ W, Calls Tryz.prog 34 #[.string t] W fun e w' => e = .returned (.tuple #[.agg #[.bool rp, .string sp, .string pp], .int .i64 ep]) ∧ Below W.heap.size W w') := by
  have k := fun W (h : REnv W) => Parse_any t W h (by omega)
  have l := fun W => RRParse_any t W (by omega)
  unfold pres at l
  cases hp : pok t with
  | false =>
    rw [hp] at k l
    simp only [Bool.false_eq_true, if_false, zv] at k l
    exact ⟨_, _, _, _, k, l⟩
  | true =>
    rw [hp] at k l
    simp only [if_true] at k l
    exact ⟨_, _, _, _, k, l⟩

theorem rtmatch_any (g1 ng : Bool) (n1 d1 nu de t : ByteArray) (w : World) (hE : REnv w) :
    Calls Tryz.prog 9 #[.agg #[.bool g1, .string n1, .string d1], .bool ng, .string nu, .string de, .string t] w fun e w' => e = .returned (.bool true) ∧ Below w.heap.size w w' := by
  cases hs : shortB 320 [(n1, d1)] with
  | false => exact rtmatch_bad0 g1 ng n1 d1 nu de t hs w hE
  | true =>
    have h := hs
    simp only [shortB, List.all_cons, List.all_nil, Bool.and_true, Bool.and_eq_true, decide_eq_true_eq] at h
    rcases Nat.lt_or_ge 320 nu.size with h2 | h2
    · exact rtmatch_bad1 g1 ng n1 d1 nu de t hs h2 w hE
    · rcases Nat.lt_or_ge 320 de.size with h3 | h3
      · exact rtmatch_bad2 g1 ng n1 d1 nu de t hs h2 h3 w hE
      · rcases Nat.lt_or_ge 620 t.size with h4 | h4
        · exact rtmatch_bad3 g1 ng n1 d1 nu de t hs h2 h3 h4 w hE
        · obtain ⟨rm, sm, um, em, km, lm⟩ := both_make ng nu de h2 h3
          obtain ⟨st, et, kt, lt⟩ := both_text g1 n1 d1 h.1 h.2
          obtain ⟨rp, sp, pp, ep, kp, lp⟩ := both_parse t h4
          exact rtmatch_go g1 ng n1 d1 nu de t hs h2 h3 h4 rm rp sm um st sp pp em et ep w hE km lm kt lt kp lp

end Nt
end Go.Proofs.YtjahnkeafaebdaaGreatDoor

