/- RatioFloors: the walk. -/
import Derived.Test.YtjahnkeafaebdaaGreatDoorRatDuo
namespace Go.Proofs.YtjahnkeafaebdaaGreatDoor
open Go.RowKit Go.Shelf
namespace Nt

theorem ofQ_one (k : Int) : ofQ k 1 = (k : Rat) := by
  unfold ofQ
  have e : (!(decide (k < 0) == decide ((1 : Int) < 0))) = decide (k < 0) := by cases decide (k < 0) <;> rfl
  rw [e, sg_self]
  exact Rat.mkRat_self (k : Rat)
theorem short_int {k : Int} (h0 : -9223372036854775808 ≤ k) (h1 : k ≤ 9223372036854775807) : ShortQ (ofQ k 1) := by
  rw [ofQ_one]
  refine ⟨int_abs_lim h0 h1, ?_⟩
  have := int_abs_lim (n := 1) (by omega) (by omega)
  exact this
theorem floor_ofQ {k : Int} (h0 : -9223372036854775808 ≤ k) (h1 : k ≤ 9223372036854775807) : floorV (ofQ k 1) = k ∧ floorE (ofQ k 1) = 0 := by
  rw [ofQ_one]
  unfold floorV floorE
  rw [Rat.floor_intCast, if_pos (show InInt k from ⟨h0, h1⟩), if_pos (show InInt k from ⟨h0, h1⟩)]
  exact ⟨rfl, rfl⟩
theorem cmp_floor (q : Rat) : cmpQ q (ofQ q.floor 1) = 0 ∨ cmpQ q (ofQ q.floor 1) = 1 := by
  rw [ofQ_one]
  have h := Rat.floor_le q
  unfold cmpQ
  rw [if_neg (Rat.not_lt.2 h)]
  split
  · exact .inl rfl
  · exact .inr rfl
theorem cmp_floor1 (q : Rat) : cmpQ q (ofQ (q.floor + 1) 1) = -1 := by
  rw [ofQ_one]
  have h := Rat.lt_floor_add_one q
  unfold cmpQ
  rw [if_pos h]

set_option maxRecDepth 100000 in
set_option maxHeartbeats 4000000 in
theorem rfloors_bad0 (g1 : Bool) (n1 d1 : ByteArray) (n : Int) (hn0 : -9223372036854775808 ≤ n) (hn1 : n ≤ 9223372036854775807) (hs : shortB 100 [(n1, d1)] = false) (w : World) (hE : REnv w) :
    Calls Tryz.prog 3 #[.agg #[.bool g1, .string n1, .string d1], .int .i64 n] w fun e w' => e = .returned (.bool true) ∧ Below w.heap.size w w' := by
  have ko := fun W (h : Env W) => RatOf_any n 1 hn0 hn1 (by omega) (by omega) (by omega) W h
  have kf := fun W (h : Env W) => Floor_any (ofQ n 1) (short_int hn0 hn1).ok W h
  rw [(floor_ofQ hn0 hn1).1, (floor_ofQ hn0 hn1).2] at kf
  simp only [qv] at ko kf
  generalize decide ((ofQ n 1).num < 0) = gi at *
  generalize T (some (ofQ n 1).num.natAbs) = ni at *
  generalize T (some (ofQ n 1).den) = di at *
  replace ko := Lib.hid ko
  replace kf := Lib.hid kf
  replace hE := Lib.hid hE
  replace hs := Lib.hid hs
  go_enter Tryz.func3, Tryz.ntmps3
  go_wp2_with fail
  refine (rhead_any _ (hE.out.below (uniW_below w g1 n1 d1))).mono ?_
  rintro e w0 ⟨rfl, hb⟩
  have qa := B3.new w g1 n1 d1
  replace qa := Lib.hid (qa.below hb)
  have hB := Lib.hid ((uniW_below w g1 n1 d1).trans (hb.mono (uniW_below w g1 n1 d1).size))
  clear hb
  obtain ⟨a1, a2, a3, a4, a5, a6⟩ := qa.out.facts
  have a7 := qa.out.lt
  go_wp2_with fail
  have hBp := hB
  refine (ko.out _ (hE.out.below hBp.out).1).mono ?_
  rintro e w1 ⟨rfl, hb⟩
  clear a1 a2 a3 a4 a5 a6 a7
  replace qa := Lib.hid (qa.out.below hb)
  replace hB := Lib.hid (hBp.out.trans (hb.mono hBp.out.size))
  clear hb hBp
  have zi1 : True := trivial
  go_wp2_with fail
  have hBp : Hid (Below w.heap.size w (w1.alloc (.cells #[.bool gi, .string ni, .string di] 23))) := hB.out.alloc hB.out.size _
  refine (kf.out _ (hE.out.below hBp.out).1).mono ?_
  rintro e w2 ⟨rfl, hb⟩
  replace qa := Lib.hid ((qa.out.alloc _).below hb)
  have qi := Lib.hid ((B3.new w1 gi ni di).below hb)
  replace hB := Lib.hid (hBp.out.trans (hb.mono hBp.out.size))
  clear hb hBp
  obtain ⟨a1, a2, a3, a4, a5, a6⟩ := qa.out.facts
  have a7 := qa.out.lt
  go_wp2_with fail
  refine (short_any 100 [(n1, d1)] w2.heap.size 1 _ (by simp) (raws1 w2 g1 n1 d1)).mono ?_
  rintro e wx ⟨rfl, rfl⟩
  rw [hs.out]
  clear a1 a2 a3 a4 a5 a6 a7
  obtain ⟨w3, hw1⟩ : ∃ W, W = w2.alloc (.cells #[.bool g1, .string n1, .string d1] 23) := ⟨_, rfl⟩
  rw [← hw1]
  replace qa := qa.out
  replace qi := qi.out
  replace qa := qa.alloc (.cells #[.bool g1, .string n1, .string d1] 23)
  replace qi := qi.alloc (.cells #[.bool g1, .string n1, .string d1] 23)
  replace hB := Lib.hid (hB.out.alloc hB.out.size (.cells #[.bool g1, .string n1, .string d1] 23))
  rw [← hw1] at hB qa qi
  replace qa := Lib.hid qa
  replace qi := Lib.hid qi
  clear hw1
  go_wp2
  go_ret
  exact ⟨rfl, hB.out⟩

set_option maxRecDepth 100000 in
set_option maxHeartbeats 4000000 in
theorem rfloors_bad1 (g1 : Bool) (n1 d1 : ByteArray) (n : Int) (hn0 : -9223372036854775808 ≤ n) (hn1 : n ≤ 9223372036854775807) (hs : shortB 100 [(n1, d1)] = true) (va : validB g1 n1 d1 = false) (sn1 : n1.size ≤ 100) (sd1 : d1.size ≤ 100) (w : World) (hE : REnv w) :
    Calls Tryz.prog 3 #[.agg #[.bool g1, .string n1, .string d1], .int .i64 n] w fun e w' => e = .returned (.bool true) ∧ Below w.heap.size w w' := by
  have ko := fun W (h : Env W) => RatOf_any n 1 hn0 hn1 (by omega) (by omega) (by omega) W h
  have kf := fun W (h : Env W) => Floor_any (ofQ n 1) (short_int hn0 hn1).ok W h
  rw [(floor_ofQ hn0 hn1).1, (floor_ofQ hn0 hn1).2] at kf
  simp only [qv] at ko kf
  generalize decide ((ofQ n 1).num < 0) = gi at *
  generalize T (some (ofQ n 1).num.natAbs) = ni at *
  generalize T (some (ofQ n 1).den) = di at *
  replace ko := Lib.hid ko
  replace kf := Lib.hid kf
  replace hE := Lib.hid hE
  replace hs := Lib.hid hs
  replace va := Lib.hid va
  go_enter Tryz.func3, Tryz.ntmps3
  go_wp2_with fail
  refine (rhead_any _ (hE.out.below (uniW_below w g1 n1 d1))).mono ?_
  rintro e w0 ⟨rfl, hb⟩
  have qa := B3.new w g1 n1 d1
  replace qa := Lib.hid (qa.below hb)
  have hB := Lib.hid ((uniW_below w g1 n1 d1).trans (hb.mono (uniW_below w g1 n1 d1).size))
  clear hb
  obtain ⟨a1, a2, a3, a4, a5, a6⟩ := qa.out.facts
  have a7 := qa.out.lt
  go_wp2_with fail
  have hBp := hB
  refine (ko.out _ (hE.out.below hBp.out).1).mono ?_
  rintro e w1 ⟨rfl, hb⟩
  clear a1 a2 a3 a4 a5 a6 a7
  replace qa := Lib.hid (qa.out.below hb)
  replace hB := Lib.hid (hBp.out.trans (hb.mono hBp.out.size))
  clear hb hBp
  have zi1 : True := trivial
  go_wp2_with fail
  have hBp : Hid (Below w.heap.size w (w1.alloc (.cells #[.bool gi, .string ni, .string di] 23))) := hB.out.alloc hB.out.size _
  refine (kf.out _ (hE.out.below hBp.out).1).mono ?_
  rintro e w2 ⟨rfl, hb⟩
  replace qa := Lib.hid ((qa.out.alloc _).below hb)
  have qi := Lib.hid ((B3.new w1 gi ni di).below hb)
  replace hB := Lib.hid (hBp.out.trans (hb.mono hBp.out.size))
  clear hb hBp
  obtain ⟨a1, a2, a3, a4, a5, a6⟩ := qa.out.facts
  have a7 := qa.out.lt
  go_wp2_with fail
  refine (short_any 100 [(n1, d1)] w2.heap.size 1 _ (by simp) (raws1 w2 g1 n1 d1)).mono ?_
  rintro e wx ⟨rfl, rfl⟩
  rw [hs.out]
  clear a1 a2 a3 a4 a5 a6 a7
  obtain ⟨w3, hw1⟩ : ∃ W, W = w2.alloc (.cells #[.bool g1, .string n1, .string d1] 23) := ⟨_, rfl⟩
  rw [← hw1]
  replace qa := qa.out
  replace qi := qi.out
  replace qa := qa.alloc (.cells #[.bool g1, .string n1, .string d1] 23)
  replace qi := qi.alloc (.cells #[.bool g1, .string n1, .string d1] 23)
  replace hB := Lib.hid (hB.out.alloc hB.out.size (.cells #[.bool g1, .string n1, .string d1] 23))
  rw [← hw1] at hB qa qi
  replace qa := Lib.hid qa
  replace qi := Lib.hid qi
  clear hw1
  obtain ⟨a1, a2, a3, a4, a5, a6⟩ := qa.out.facts
  have a7 := qa.out.lt
  go_wp2_with fail
  have hBp := hB
  refine (Valid_any g1 n1 d1 _ (hE.out.below hBp.out).1 (by omega) (by omega)).mono ?_
  rintro e w4 ⟨rfl, hb⟩
  rw [va.out]
  clear a1 a2 a3 a4 a5 a6 a7
  replace qa := Lib.hid (qa.out.below hb)
  replace qi := Lib.hid (qi.out.below hb)
  replace hB := Lib.hid (hBp.out.trans (hb.mono hBp.out.size))
  clear hb hBp
  obtain ⟨a1, a2, a3, a4, a5, a6⟩ := qa.out.facts
  have a7 := qa.out.lt
  go_wp2
  go_ret
  exact ⟨rfl, hB.out⟩

set_option maxRecDepth 100000 in
set_option maxHeartbeats 4000000 in
theorem rfloors_range (g1 : Bool) (n1 d1 : ByteArray) (n : Int) (hn0 : -9223372036854775808 ≤ n) (hn1 : n ≤ 9223372036854775807) (hs : shortB 100 [(n1, d1)] = true) (va : validB g1 n1 d1 = true) (sn1 : n1.size ≤ 100) (sd1 : d1.size ≤ 100) (kg : ∀ W, Env W → Calls Tryz.prog 12 #[.agg #[.bool g1, .string n1, .string d1]] W fun e w' => e = .returned (.tuple #[.int .i64 0, .int .i64 10]) ∧ Below W.heap.size W w') (w : World) (hE : REnv w) :
    Calls Tryz.prog 3 #[.agg #[.bool g1, .string n1, .string d1], .int .i64 n] w fun e w' => e = .returned (.bool true) ∧ Below w.heap.size w w' := by
  have ko := fun W (h : Env W) => RatOf_any n 1 hn0 hn1 (by omega) (by omega) (by omega) W h
  have kf := fun W (h : Env W) => Floor_any (ofQ n 1) (short_int hn0 hn1).ok W h
  rw [(floor_ofQ hn0 hn1).1, (floor_ofQ hn0 hn1).2] at kf
  simp only [qv] at ko kf
  generalize decide ((ofQ n 1).num < 0) = gi at *
  generalize T (some (ofQ n 1).num.natAbs) = ni at *
  generalize T (some (ofQ n 1).den) = di at *
  replace ko := Lib.hid ko
  replace kf := Lib.hid kf
  replace hE := Lib.hid hE
  have kva := fun W (h : Env W) => Valid_any g1 n1 d1 W h (by omega) (by omega)
  rw [va] at kva
  clear va
  replace kva := Lib.hid kva
  replace hs := Lib.hid hs
  replace kg := Lib.hid kg
  go_enter Tryz.func3, Tryz.ntmps3
  go_wp2_with fail
  refine (rhead_any _ (hE.out.below (uniW_below w g1 n1 d1))).mono ?_
  rintro e w0 ⟨rfl, hb⟩
  have qa := B3.new w g1 n1 d1
  replace qa := Lib.hid (qa.below hb)
  have hB := Lib.hid ((uniW_below w g1 n1 d1).trans (hb.mono (uniW_below w g1 n1 d1).size))
  clear hb
  obtain ⟨a1, a2, a3, a4, a5, a6⟩ := qa.out.facts
  have a7 := qa.out.lt
  go_wp2_with fail
  have hBp := hB
  refine (ko.out _ (hE.out.below hBp.out).1).mono ?_
  rintro e w1 ⟨rfl, hb⟩
  clear a1 a2 a3 a4 a5 a6 a7
  replace qa := Lib.hid (qa.out.below hb)
  replace hB := Lib.hid (hBp.out.trans (hb.mono hBp.out.size))
  clear hb hBp
  have zi1 : True := trivial
  go_wp2_with fail
  have hBp : Hid (Below w.heap.size w (w1.alloc (.cells #[.bool gi, .string ni, .string di] 23))) := hB.out.alloc hB.out.size _
  refine (kf.out _ (hE.out.below hBp.out).1).mono ?_
  rintro e w2 ⟨rfl, hb⟩
  replace qa := Lib.hid ((qa.out.alloc _).below hb)
  have qi := Lib.hid ((B3.new w1 gi ni di).below hb)
  replace hB := Lib.hid (hBp.out.trans (hb.mono hBp.out.size))
  clear hb hBp
  obtain ⟨a1, a2, a3, a4, a5, a6⟩ := qa.out.facts
  have a7 := qa.out.lt
  go_wp2_with fail
  refine (short_any 100 [(n1, d1)] w2.heap.size 1 _ (by simp) (raws1 w2 g1 n1 d1)).mono ?_
  rintro e wx ⟨rfl, rfl⟩
  rw [hs.out]
  clear a1 a2 a3 a4 a5 a6 a7
  obtain ⟨w3, hw1⟩ : ∃ W, W = w2.alloc (.cells #[.bool g1, .string n1, .string d1] 23) := ⟨_, rfl⟩
  rw [← hw1]
  replace qa := qa.out
  replace qi := qi.out
  replace qa := qa.alloc (.cells #[.bool g1, .string n1, .string d1] 23)
  replace qi := qi.alloc (.cells #[.bool g1, .string n1, .string d1] 23)
  replace hB := Lib.hid (hB.out.alloc hB.out.size (.cells #[.bool g1, .string n1, .string d1] 23))
  rw [← hw1] at hB qa qi
  replace qa := Lib.hid qa
  replace qi := Lib.hid qi
  clear hw1
  obtain ⟨a1, a2, a3, a4, a5, a6⟩ := qa.out.facts
  have a7 := qa.out.lt
  go_wp2_with fail
  have hBp := hB
  refine (kva.out _ (hE.out.below hBp.out).1).mono ?_
  rintro e w4 ⟨rfl, hb⟩
  clear a1 a2 a3 a4 a5 a6 a7
  replace qa := Lib.hid (qa.out.below hb)
  replace qi := Lib.hid (qi.out.below hb)
  replace hB := Lib.hid (hBp.out.trans (hb.mono hBp.out.size))
  clear hb hBp
  obtain ⟨a1, a2, a3, a4, a5, a6⟩ := qa.out.facts
  have a7 := qa.out.lt
  go_wp2_with fail
  have hBp := hB
  refine (kg.out _ (hE.out.below hBp.out).1).mono ?_
  rintro e w5 ⟨rfl, hb⟩
  clear a1 a2 a3 a4 a5 a6 a7
  replace qa := Lib.hid (qa.out.below hb)
  replace qi := Lib.hid (qi.out.below hb)
  replace hB := Lib.hid (hBp.out.trans (hb.mono hBp.out.size))
  clear hb hBp
  go_wp2
  go_ret
  exact ⟨rfl, hB.out⟩

set_option maxRecDepth 100000 in
set_option maxHeartbeats 4000000 in
theorem rfloors_top (g1 : Bool) (n1 d1 : ByteArray) (n k lo : Int) (hn0 : -9223372036854775808 ≤ n) (hn1 : n ≤ 9223372036854775807) (hs : shortB 100 [(n1, d1)] = true) (va : validB g1 n1 d1 = true) (sn1 : n1.size ≤ 100) (sd1 : d1.size ≤ 100) (kg : ∀ W, Env W → Calls Tryz.prog 12 #[.agg #[.bool g1, .string n1, .string d1]] W fun e w' => e = .returned (.tuple #[.int .i64 k, .int .i64 0]) ∧ Below W.heap.size W w') (hw : wrap64 (k + 1) = lo) (hlt : lo < k) (w : World) (hE : REnv w) :
    Calls Tryz.prog 3 #[.agg #[.bool g1, .string n1, .string d1], .int .i64 n] w fun e w' => e = .returned (.bool true) ∧ Below w.heap.size w w' := by
  have ko := fun W (h : Env W) => RatOf_any n 1 hn0 hn1 (by omega) (by omega) (by omega) W h
  have kf := fun W (h : Env W) => Floor_any (ofQ n 1) (short_int hn0 hn1).ok W h
  rw [(floor_ofQ hn0 hn1).1, (floor_ofQ hn0 hn1).2] at kf
  simp only [qv] at ko kf
  generalize decide ((ofQ n 1).num < 0) = gi at *
  generalize T (some (ofQ n 1).num.natAbs) = ni at *
  generalize T (some (ofQ n 1).den) = di at *
  replace ko := Lib.hid ko
  replace kf := Lib.hid kf
  replace hE := Lib.hid hE
  have kva := fun W (h : Env W) => Valid_any g1 n1 d1 W h (by omega) (by omega)
  rw [va] at kva
  clear va
  replace kva := Lib.hid kva
  replace hs := Lib.hid hs
  replace kg := Lib.hid kg
  go_enter Tryz.func3, Tryz.ntmps3
  go_wp2_with fail
  refine (rhead_any _ (hE.out.below (uniW_below w g1 n1 d1))).mono ?_
  rintro e w0 ⟨rfl, hb⟩
  have qa := B3.new w g1 n1 d1
  replace qa := Lib.hid (qa.below hb)
  have hB := Lib.hid ((uniW_below w g1 n1 d1).trans (hb.mono (uniW_below w g1 n1 d1).size))
  clear hb
  obtain ⟨a1, a2, a3, a4, a5, a6⟩ := qa.out.facts
  have a7 := qa.out.lt
  go_wp2_with fail
  have hBp := hB
  refine (ko.out _ (hE.out.below hBp.out).1).mono ?_
  rintro e w1 ⟨rfl, hb⟩
  clear a1 a2 a3 a4 a5 a6 a7
  replace qa := Lib.hid (qa.out.below hb)
  replace hB := Lib.hid (hBp.out.trans (hb.mono hBp.out.size))
  clear hb hBp
  have zi1 : True := trivial
  go_wp2_with fail
  have hBp : Hid (Below w.heap.size w (w1.alloc (.cells #[.bool gi, .string ni, .string di] 23))) := hB.out.alloc hB.out.size _
  refine (kf.out _ (hE.out.below hBp.out).1).mono ?_
  rintro e w2 ⟨rfl, hb⟩
  replace qa := Lib.hid ((qa.out.alloc _).below hb)
  have qi := Lib.hid ((B3.new w1 gi ni di).below hb)
  replace hB := Lib.hid (hBp.out.trans (hb.mono hBp.out.size))
  clear hb hBp
  obtain ⟨a1, a2, a3, a4, a5, a6⟩ := qa.out.facts
  have a7 := qa.out.lt
  go_wp2_with fail
  refine (short_any 100 [(n1, d1)] w2.heap.size 1 _ (by simp) (raws1 w2 g1 n1 d1)).mono ?_
  rintro e wx ⟨rfl, rfl⟩
  rw [hs.out]
  clear a1 a2 a3 a4 a5 a6 a7
  obtain ⟨w3, hw1⟩ : ∃ W, W = w2.alloc (.cells #[.bool g1, .string n1, .string d1] 23) := ⟨_, rfl⟩
  rw [← hw1]
  replace qa := qa.out
  replace qi := qi.out
  replace qa := qa.alloc (.cells #[.bool g1, .string n1, .string d1] 23)
  replace qi := qi.alloc (.cells #[.bool g1, .string n1, .string d1] 23)
  replace hB := Lib.hid (hB.out.alloc hB.out.size (.cells #[.bool g1, .string n1, .string d1] 23))
  rw [← hw1] at hB qa qi
  replace qa := Lib.hid qa
  replace qi := Lib.hid qi
  clear hw1
  obtain ⟨a1, a2, a3, a4, a5, a6⟩ := qa.out.facts
  have a7 := qa.out.lt
  go_wp2_with fail
  have hBp := hB
  refine (kva.out _ (hE.out.below hBp.out).1).mono ?_
  rintro e w4 ⟨rfl, hb⟩
  clear a1 a2 a3 a4 a5 a6 a7
  replace qa := Lib.hid (qa.out.below hb)
  replace qi := Lib.hid (qi.out.below hb)
  replace hB := Lib.hid (hBp.out.trans (hb.mono hBp.out.size))
  clear hb hBp
  obtain ⟨a1, a2, a3, a4, a5, a6⟩ := qa.out.facts
  have a7 := qa.out.lt
  go_wp2_with fail
  have hBp := hB
  refine (kg.out _ (hE.out.below hBp.out).1).mono ?_
  rintro e w5 ⟨rfl, hb⟩
  clear a1 a2 a3 a4 a5 a6 a7
  replace qa := Lib.hid (qa.out.below hb)
  replace qi := Lib.hid (qi.out.below hb)
  replace hB := Lib.hid (hBp.out.trans (hb.mono hBp.out.size))
  clear hb hBp
  go_wp2
  go_ret
  exact ⟨rfl, hB.out⟩

set_option maxRecDepth 100000 in
set_option maxHeartbeats 4000000 in
theorem rfloors_midz (g1 : Bool) (n1 d1 : ByteArray) (n : Int) (k : Int) (gx gy : Bool) (nx dx ny dy : ByteArray) (hn0 : -9223372036854775808 ≤ n) (hn1 : n ≤ 9223372036854775807) (hs : shortB 100 [(n1, d1)] = true) (va : validB g1 n1 d1 = true) (sn1 : n1.size ≤ 100) (sd1 : d1.size ≤ 100) (hk0 : -9223372036854775808 ≤ k) (hk1 : k < 9223372036854775807) (kg : ∀ W, Env W → Calls Tryz.prog 12 #[.agg #[.bool g1, .string n1, .string d1]] W fun e w' => e = .returned (.tuple #[.int .i64 k, .int .i64 0]) ∧ Below W.heap.size W w') (kx : ∀ W, Env W → Calls Tryz.prog 15 #[.int .i64 k, .int .i64 1] W fun e w' => e = .returned (.agg #[.bool gx, .string nx, .string dx]) ∧ Below W.heap.size W w') (ky : ∀ W, Env W → Calls Tryz.prog 15 #[.int .i64 (k + 1), .int .i64 1] W fun e w' => e = .returned (.agg #[.bool gy, .string ny, .string dy]) ∧ Below W.heap.size W w') (kc : ∀ W, Env W → Calls Tryz.prog 16 #[.agg #[.bool g1, .string n1, .string d1], .agg #[.bool gx, .string nx, .string dx]] W fun e w' => e = .returned (.tuple #[.int .i64 0, .int .i64 0]) ∧ Below W.heap.size W w') (kd : ∀ W, Env W → Calls Tryz.prog 16 #[.agg #[.bool g1, .string n1, .string d1], .agg #[.bool gy, .string ny, .string dy]] W fun e w' => e = .returned (.tuple #[.int .i64 (-1), .int .i64 0]) ∧ Below W.heap.size W w') (w : World) (hE : REnv w) :
    Calls Tryz.prog 3 #[.agg #[.bool g1, .string n1, .string d1], .int .i64 n] w fun e w' => e = .returned (.bool true) ∧ Below w.heap.size w w' := by
  have ko := fun W (h : Env W) => RatOf_any n 1 hn0 hn1 (by omega) (by omega) (by omega) W h
  have kf := fun W (h : Env W) => Floor_any (ofQ n 1) (short_int hn0 hn1).ok W h
  rw [(floor_ofQ hn0 hn1).1, (floor_ofQ hn0 hn1).2] at kf
  simp only [qv] at ko kf
  generalize decide ((ofQ n 1).num < 0) = gi at *
  generalize T (some (ofQ n 1).num.natAbs) = ni at *
  generalize T (some (ofQ n 1).den) = di at *
  replace ko := Lib.hid ko
  replace kf := Lib.hid kf
  replace hE := Lib.hid hE
  have kva := fun W (h : Env W) => Valid_any g1 n1 d1 W h (by omega) (by omega)
  rw [va] at kva
  clear va
  replace kva := Lib.hid kva
  replace hs := Lib.hid hs
  replace kg := Lib.hid kg
  replace kx := Lib.hid kx
  replace ky := Lib.hid ky
  replace kc := Lib.hid kc
  replace kd := Lib.hid kd
  go_enter Tryz.func3, Tryz.ntmps3
  go_wp2_with fail
  refine (rhead_any _ (hE.out.below (uniW_below w g1 n1 d1))).mono ?_
  rintro e w0 ⟨rfl, hb⟩
  have qa := B3.new w g1 n1 d1
  replace qa := Lib.hid (qa.below hb)
  have hB := Lib.hid ((uniW_below w g1 n1 d1).trans (hb.mono (uniW_below w g1 n1 d1).size))
  clear hb
  obtain ⟨a1, a2, a3, a4, a5, a6⟩ := qa.out.facts
  have a7 := qa.out.lt
  go_wp2_with fail
  have hBp := hB
  refine (ko.out _ (hE.out.below hBp.out).1).mono ?_
  rintro e w1 ⟨rfl, hb⟩
  clear a1 a2 a3 a4 a5 a6 a7
  replace qa := Lib.hid (qa.out.below hb)
  replace hB := Lib.hid (hBp.out.trans (hb.mono hBp.out.size))
  clear hb hBp
  have zi1 : True := trivial
  go_wp2_with fail
  have hBp : Hid (Below w.heap.size w (w1.alloc (.cells #[.bool gi, .string ni, .string di] 23))) := hB.out.alloc hB.out.size _
  refine (kf.out _ (hE.out.below hBp.out).1).mono ?_
  rintro e w2 ⟨rfl, hb⟩
  replace qa := Lib.hid ((qa.out.alloc _).below hb)
  have qi := Lib.hid ((B3.new w1 gi ni di).below hb)
  replace hB := Lib.hid (hBp.out.trans (hb.mono hBp.out.size))
  clear hb hBp
  obtain ⟨a1, a2, a3, a4, a5, a6⟩ := qa.out.facts
  have a7 := qa.out.lt
  go_wp2_with fail
  refine (short_any 100 [(n1, d1)] w2.heap.size 1 _ (by simp) (raws1 w2 g1 n1 d1)).mono ?_
  rintro e wx ⟨rfl, rfl⟩
  rw [hs.out]
  clear a1 a2 a3 a4 a5 a6 a7
  obtain ⟨w3, hw1⟩ : ∃ W, W = w2.alloc (.cells #[.bool g1, .string n1, .string d1] 23) := ⟨_, rfl⟩
  rw [← hw1]
  replace qa := qa.out
  replace qi := qi.out
  replace qa := qa.alloc (.cells #[.bool g1, .string n1, .string d1] 23)
  replace qi := qi.alloc (.cells #[.bool g1, .string n1, .string d1] 23)
  replace hB := Lib.hid (hB.out.alloc hB.out.size (.cells #[.bool g1, .string n1, .string d1] 23))
  rw [← hw1] at hB qa qi
  replace qa := Lib.hid qa
  replace qi := Lib.hid qi
  clear hw1
  obtain ⟨a1, a2, a3, a4, a5, a6⟩ := qa.out.facts
  have a7 := qa.out.lt
  go_wp2_with fail
  have hBp := hB
  refine (kva.out _ (hE.out.below hBp.out).1).mono ?_
  rintro e w4 ⟨rfl, hb⟩
  clear a1 a2 a3 a4 a5 a6 a7
  replace qa := Lib.hid (qa.out.below hb)
  replace qi := Lib.hid (qi.out.below hb)
  replace hB := Lib.hid (hBp.out.trans (hb.mono hBp.out.size))
  clear hb hBp
  obtain ⟨a1, a2, a3, a4, a5, a6⟩ := qa.out.facts
  have a7 := qa.out.lt
  go_wp2_with fail
  have hBp := hB
  refine (kg.out _ (hE.out.below hBp.out).1).mono ?_
  rintro e w5 ⟨rfl, hb⟩
  clear a1 a2 a3 a4 a5 a6 a7
  replace qa := Lib.hid (qa.out.below hb)
  replace qi := Lib.hid (qi.out.below hb)
  replace hB := Lib.hid (hBp.out.trans (hb.mono hBp.out.size))
  clear hb hBp
  go_wp2_with fail
  have hBp := hB
  refine (kx.out _ (hE.out.below hBp.out).1).mono ?_
  rintro e w6 ⟨rfl, hb⟩
  replace qa := Lib.hid (qa.out.below hb)
  replace qi := Lib.hid (qi.out.below hb)
  replace hB := Lib.hid (hBp.out.trans (hb.mono hBp.out.size))
  clear hb hBp
  go_wp2_with fail
  have hBp := hB
  refine (ky.out _ (hE.out.below hBp.out).1).mono ?_
  rintro e w7 ⟨rfl, hb⟩
  replace qa := Lib.hid (qa.out.below hb)
  replace qi := Lib.hid (qi.out.below hb)
  replace hB := Lib.hid (hBp.out.trans (hb.mono hBp.out.size))
  clear hb hBp
  obtain ⟨a1, a2, a3, a4, a5, a6⟩ := qa.out.facts
  have a7 := qa.out.lt
  go_wp2_with fail
  have hBp : Hid (Below w.heap.size w ((w7.alloc (.cells #[.bool gx, .string nx, .string dx] 23)).alloc (.cells #[.bool gy, .string ny, .string dy] 23))) := ((hB.out.alloc (by have := hB.out.size; simp; try omega) (.cells #[.bool gx, .string nx, .string dx] 23)).alloc (by have := hB.out.size; simp; try omega) (.cells #[.bool gy, .string ny, .string dy] 23))
  refine (kc.out _ (hE.out.below hBp.out).1).mono ?_
  rintro e w8 ⟨rfl, hb⟩
  clear a1 a2 a3 a4 a5 a6 a7
  replace qa := Lib.hid ((((qa.out.alloc _).alloc _)).below hb)
  replace qi := Lib.hid ((((qi.out.alloc _).alloc _)).below hb)
  have qx := B3.new w7 gx nx dx
  replace qx := Lib.hid (((qx.alloc _)).below hb)
  have qy := B3.new (w7.alloc (.cells #[.bool gx, .string nx, .string dx] 23)) gy ny dy
  rw [show (w7.alloc (.cells #[.bool gx, .string nx, .string dx] 23)).heap.size = w7.heap.size + 1 by simp] at qy
  replace qy := Lib.hid ((qy).below hb)
  replace hB := Lib.hid (hBp.out.trans (hb.mono hBp.out.size))
  clear hb hBp
  obtain ⟨a1, a2, a3, a4, a5, a6⟩ := qa.out.facts
  have a7 := qa.out.lt
  obtain ⟨y1, y2, y3, y4, y5, y6⟩ := qy.out.facts
  have y7 := qy.out.lt
  go_wp2_with fail
  have hBp := hB
  refine (kd.out _ (hE.out.below hBp.out).1).mono ?_
  rintro e w9 ⟨rfl, hb⟩
  clear a1 a2 a3 a4 a5 a6 a7 y1 y2 y3 y4 y5 y6 y7
  replace qa := Lib.hid (qa.out.below hb)
  replace qi := Lib.hid (qi.out.below hb)
  replace qx := Lib.hid (qx.out.below hb)
  replace qy := Lib.hid (qy.out.below hb)
  replace hB := Lib.hid (hBp.out.trans (hb.mono hBp.out.size))
  clear hb hBp
  go_wp2
  go_ret
  exact ⟨rfl, hB.out⟩

set_option maxRecDepth 100000 in
set_option maxHeartbeats 4000000 in
theorem rfloors_mido (g1 : Bool) (n1 d1 : ByteArray) (n : Int) (k : Int) (gx gy : Bool) (nx dx ny dy : ByteArray) (hn0 : -9223372036854775808 ≤ n) (hn1 : n ≤ 9223372036854775807) (hs : shortB 100 [(n1, d1)] = true) (va : validB g1 n1 d1 = true) (sn1 : n1.size ≤ 100) (sd1 : d1.size ≤ 100) (hk0 : -9223372036854775808 ≤ k) (hk1 : k < 9223372036854775807) (kg : ∀ W, Env W → Calls Tryz.prog 12 #[.agg #[.bool g1, .string n1, .string d1]] W fun e w' => e = .returned (.tuple #[.int .i64 k, .int .i64 0]) ∧ Below W.heap.size W w') (kx : ∀ W, Env W → Calls Tryz.prog 15 #[.int .i64 k, .int .i64 1] W fun e w' => e = .returned (.agg #[.bool gx, .string nx, .string dx]) ∧ Below W.heap.size W w') (ky : ∀ W, Env W → Calls Tryz.prog 15 #[.int .i64 (k + 1), .int .i64 1] W fun e w' => e = .returned (.agg #[.bool gy, .string ny, .string dy]) ∧ Below W.heap.size W w') (kc : ∀ W, Env W → Calls Tryz.prog 16 #[.agg #[.bool g1, .string n1, .string d1], .agg #[.bool gx, .string nx, .string dx]] W fun e w' => e = .returned (.tuple #[.int .i64 1, .int .i64 0]) ∧ Below W.heap.size W w') (kd : ∀ W, Env W → Calls Tryz.prog 16 #[.agg #[.bool g1, .string n1, .string d1], .agg #[.bool gy, .string ny, .string dy]] W fun e w' => e = .returned (.tuple #[.int .i64 (-1), .int .i64 0]) ∧ Below W.heap.size W w') (w : World) (hE : REnv w) :
    Calls Tryz.prog 3 #[.agg #[.bool g1, .string n1, .string d1], .int .i64 n] w fun e w' => e = .returned (.bool true) ∧ Below w.heap.size w w' := by
  have ko := fun W (h : Env W) => RatOf_any n 1 hn0 hn1 (by omega) (by omega) (by omega) W h
  have kf := fun W (h : Env W) => Floor_any (ofQ n 1) (short_int hn0 hn1).ok W h
  rw [(floor_ofQ hn0 hn1).1, (floor_ofQ hn0 hn1).2] at kf
  simp only [qv] at ko kf
  generalize decide ((ofQ n 1).num < 0) = gi at *
  generalize T (some (ofQ n 1).num.natAbs) = ni at *
  generalize T (some (ofQ n 1).den) = di at *
  replace ko := Lib.hid ko
  replace kf := Lib.hid kf
  replace hE := Lib.hid hE
  have kva := fun W (h : Env W) => Valid_any g1 n1 d1 W h (by omega) (by omega)
  rw [va] at kva
  clear va
  replace kva := Lib.hid kva
  replace hs := Lib.hid hs
  replace kg := Lib.hid kg
  replace kx := Lib.hid kx
  replace ky := Lib.hid ky
  replace kc := Lib.hid kc
  replace kd := Lib.hid kd
  go_enter Tryz.func3, Tryz.ntmps3
  go_wp2_with fail
  refine (rhead_any _ (hE.out.below (uniW_below w g1 n1 d1))).mono ?_
  rintro e w0 ⟨rfl, hb⟩
  have qa := B3.new w g1 n1 d1
  replace qa := Lib.hid (qa.below hb)
  have hB := Lib.hid ((uniW_below w g1 n1 d1).trans (hb.mono (uniW_below w g1 n1 d1).size))
  clear hb
  obtain ⟨a1, a2, a3, a4, a5, a6⟩ := qa.out.facts
  have a7 := qa.out.lt
  go_wp2_with fail
  have hBp := hB
  refine (ko.out _ (hE.out.below hBp.out).1).mono ?_
  rintro e w1 ⟨rfl, hb⟩
  clear a1 a2 a3 a4 a5 a6 a7
  replace qa := Lib.hid (qa.out.below hb)
  replace hB := Lib.hid (hBp.out.trans (hb.mono hBp.out.size))
  clear hb hBp
  have zi1 : True := trivial
  go_wp2_with fail
  have hBp : Hid (Below w.heap.size w (w1.alloc (.cells #[.bool gi, .string ni, .string di] 23))) := hB.out.alloc hB.out.size _
  refine (kf.out _ (hE.out.below hBp.out).1).mono ?_
  rintro e w2 ⟨rfl, hb⟩
  replace qa := Lib.hid ((qa.out.alloc _).below hb)
  have qi := Lib.hid ((B3.new w1 gi ni di).below hb)
  replace hB := Lib.hid (hBp.out.trans (hb.mono hBp.out.size))
  clear hb hBp
  obtain ⟨a1, a2, a3, a4, a5, a6⟩ := qa.out.facts
  have a7 := qa.out.lt
  go_wp2_with fail
  refine (short_any 100 [(n1, d1)] w2.heap.size 1 _ (by simp) (raws1 w2 g1 n1 d1)).mono ?_
  rintro e wx ⟨rfl, rfl⟩
  rw [hs.out]
  clear a1 a2 a3 a4 a5 a6 a7
  obtain ⟨w3, hw1⟩ : ∃ W, W = w2.alloc (.cells #[.bool g1, .string n1, .string d1] 23) := ⟨_, rfl⟩
  rw [← hw1]
  replace qa := qa.out
  replace qi := qi.out
  replace qa := qa.alloc (.cells #[.bool g1, .string n1, .string d1] 23)
  replace qi := qi.alloc (.cells #[.bool g1, .string n1, .string d1] 23)
  replace hB := Lib.hid (hB.out.alloc hB.out.size (.cells #[.bool g1, .string n1, .string d1] 23))
  rw [← hw1] at hB qa qi
  replace qa := Lib.hid qa
  replace qi := Lib.hid qi
  clear hw1
  obtain ⟨a1, a2, a3, a4, a5, a6⟩ := qa.out.facts
  have a7 := qa.out.lt
  go_wp2_with fail
  have hBp := hB
  refine (kva.out _ (hE.out.below hBp.out).1).mono ?_
  rintro e w4 ⟨rfl, hb⟩
  clear a1 a2 a3 a4 a5 a6 a7
  replace qa := Lib.hid (qa.out.below hb)
  replace qi := Lib.hid (qi.out.below hb)
  replace hB := Lib.hid (hBp.out.trans (hb.mono hBp.out.size))
  clear hb hBp
  obtain ⟨a1, a2, a3, a4, a5, a6⟩ := qa.out.facts
  have a7 := qa.out.lt
  go_wp2_with fail
  have hBp := hB
  refine (kg.out _ (hE.out.below hBp.out).1).mono ?_
  rintro e w5 ⟨rfl, hb⟩
  clear a1 a2 a3 a4 a5 a6 a7
  replace qa := Lib.hid (qa.out.below hb)
  replace qi := Lib.hid (qi.out.below hb)
  replace hB := Lib.hid (hBp.out.trans (hb.mono hBp.out.size))
  clear hb hBp
  go_wp2_with fail
  have hBp := hB
  refine (kx.out _ (hE.out.below hBp.out).1).mono ?_
  rintro e w6 ⟨rfl, hb⟩
  replace qa := Lib.hid (qa.out.below hb)
  replace qi := Lib.hid (qi.out.below hb)
  replace hB := Lib.hid (hBp.out.trans (hb.mono hBp.out.size))
  clear hb hBp
  go_wp2_with fail
  have hBp := hB
  refine (ky.out _ (hE.out.below hBp.out).1).mono ?_
  rintro e w7 ⟨rfl, hb⟩
  replace qa := Lib.hid (qa.out.below hb)
  replace qi := Lib.hid (qi.out.below hb)
  replace hB := Lib.hid (hBp.out.trans (hb.mono hBp.out.size))
  clear hb hBp
  obtain ⟨a1, a2, a3, a4, a5, a6⟩ := qa.out.facts
  have a7 := qa.out.lt
  go_wp2_with fail
  have hBp : Hid (Below w.heap.size w ((w7.alloc (.cells #[.bool gx, .string nx, .string dx] 23)).alloc (.cells #[.bool gy, .string ny, .string dy] 23))) := ((hB.out.alloc (by have := hB.out.size; simp; try omega) (.cells #[.bool gx, .string nx, .string dx] 23)).alloc (by have := hB.out.size; simp; try omega) (.cells #[.bool gy, .string ny, .string dy] 23))
  refine (kc.out _ (hE.out.below hBp.out).1).mono ?_
  rintro e w8 ⟨rfl, hb⟩
  clear a1 a2 a3 a4 a5 a6 a7
  replace qa := Lib.hid ((((qa.out.alloc _).alloc _)).below hb)
  replace qi := Lib.hid ((((qi.out.alloc _).alloc _)).below hb)
  have qx := B3.new w7 gx nx dx
  replace qx := Lib.hid (((qx.alloc _)).below hb)
  have qy := B3.new (w7.alloc (.cells #[.bool gx, .string nx, .string dx] 23)) gy ny dy
  rw [show (w7.alloc (.cells #[.bool gx, .string nx, .string dx] 23)).heap.size = w7.heap.size + 1 by simp] at qy
  replace qy := Lib.hid ((qy).below hb)
  replace hB := Lib.hid (hBp.out.trans (hb.mono hBp.out.size))
  clear hb hBp
  obtain ⟨a1, a2, a3, a4, a5, a6⟩ := qa.out.facts
  have a7 := qa.out.lt
  obtain ⟨y1, y2, y3, y4, y5, y6⟩ := qy.out.facts
  have y7 := qy.out.lt
  go_wp2_with fail
  have hBp := hB
  refine (kd.out _ (hE.out.below hBp.out).1).mono ?_
  rintro e w9 ⟨rfl, hb⟩
  clear a1 a2 a3 a4 a5 a6 a7 y1 y2 y3 y4 y5 y6 y7
  replace qa := Lib.hid (qa.out.below hb)
  replace qi := Lib.hid (qi.out.below hb)
  replace qx := Lib.hid (qx.out.below hb)
  replace qy := Lib.hid (qy.out.below hb)
  replace hB := Lib.hid (hBp.out.trans (hb.mono hBp.out.size))
  clear hb hBp
  go_wp2
  go_ret
  exact ⟨rfl, hB.out⟩

theorem rfloors_any (g1 : Bool) (n1 d1 : ByteArray) (n : Int) (hn0 : -9223372036854775808 ≤ n) (hn1 : n ≤ 9223372036854775807) (w : World) (hE : REnv w) :
    Calls Tryz.prog 3 #[.agg #[.bool g1, .string n1, .string d1], .int .i64 n] w fun e w' => e = .returned (.bool true) ∧ Below w.heap.size w w' := by
  cases hs : shortB 100 [(n1, d1)] with
  | false => exact rfloors_bad0 g1 n1 d1 n hn0 hn1 hs w hE
  | true =>
    have h := hs
    simp only [shortB, List.all_cons, List.all_nil, Bool.and_true, Bool.and_eq_true, decide_eq_true_eq] at h
    cases va : validB g1 n1 d1 with
    | false => exact rfloors_bad1 g1 n1 d1 n hn0 hn1 hs va h.1 h.2 w hE
    | true =>
      obtain ⟨q, hq, rfl, rfl, rfl⟩ := of_valid va
      have hsq : ShortQ q := short_of_sizes (by omega) (by omega)
      have kg := fun W (h : Env W) => Floor_any q hq W h
      unfold floorV floorE at kg
      by_cases hi : InInt q.floor
      · rw [if_pos hi, if_pos hi] at kg
        by_cases ht : q.floor = 9223372036854775807
        · exact rfloors_top _ _ _ n q.floor (-9223372036854775808) hn0 hn1 hs va h.1 h.2 kg (by rw [ht]; decide +kernel) (by omega) w hE
        · have h1 := hi.1
          have h2 : q.floor < 9223372036854775807 := by have := hi.2; omega
          have kx := fun W (h : Env W) => ofc_any q.floor 1 hi.1 hi.2 (by omega) (by omega) (by omega) W h
          have ky := fun W (h : Env W) => ofc_any (q.floor + 1) 1 (by omega) (by omega) (by omega) (by omega) (by omega) W h
          have kc := fun W (h : Env W) => Compare_short q (ofQ q.floor 1) hsq (short_int hi.1 hi.2) W h
          have kd := fun W (h : Env W) => Compare_short q (ofQ (q.floor + 1) 1) hsq (short_int (by omega) (by omega)) W h
          rw [cmp_floor1] at kd
          rcases cmp_floor q with hc | hc
          · rw [hc] at kc
            exact rfloors_midz _ _ _ n _ _ _ _ _ _ _ hn0 hn1 hs va h.1 h.2 h1 h2 kg kx ky kc kd w hE
          · rw [hc] at kc
            exact rfloors_mido _ _ _ n _ _ _ _ _ _ _ hn0 hn1 hs va h.1 h.2 h1 h2 kg kx ky kc kd w hE
      · rw [if_neg hi, if_neg hi] at kg
        exact rfloors_range _ _ _ n hn0 hn1 hs va h.1 h.2 kg w hE

end Nt
end Go.Proofs.YtjahnkeafaebdaaGreatDoor

