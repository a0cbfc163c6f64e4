/- The reference's rational operations, Floor, Text, Parse; the same results as the program's. -/
import Derived.Test.YtjjlnahipiinfaaGreatDoorRRef1
import Derived.IntWalk
import Derived.BigRegion
import Derived.RegionTactic
namespace Go.Proofs.YtjjlnahipiinfaaGreatDoor
open Go.RowKit Go.Shelf
namespace Nt

set_option maxRecDepth 100000 in
set_option maxHeartbeats 2000000 in
theorem RRAdd_bad1 (g1 g2 : Bool) (n1 d1 n2 d2 : ByteArray)  (w : World)
    (v1 : ∀ W, Calls Tryz.prog 49 #[.agg #[.bool g1, .string n1, .string d1]] W fun e w' => e = .returned (.bool false) ∧ Below W.heap.size W w') :
    Calls Tryz.prog 53 #[.agg #[.bool g1, .string n1, .string d1], .agg #[.bool g2, .string n2, .string d2]] w fun e w' => e = .returned (.tuple #[.agg #[.bool false, .string ⟨#[]⟩, .string ⟨#[]⟩], .int .i64 1]) ∧ Below w.heap.size w w' := by
  have q0 := Lib.hid (TwoBoxes.new w g1 g2 n1 d1 n2 d2)
  have hB0 := Lib.hid (twoW_below w g1 g2 n1 d1 n2 d2)
  replace v1 := Lib.hid v1
  go_enter Tryz.func53, Tryz.ntmps53
  go_wp2_with fail
  refine (v1.out _).mono ?_
  rintro e w1 ⟨rfl, hb⟩
  have q1 := q0.out.below hb
  have hB1 := Lib.hid (hB0.out.trans (hb.mono hB0.out.size))
  clear hb
  obtain ⟨a1, a2, a3, a4, a5, a6⟩ := q1.1.facts
  obtain ⟨b1, b2, b3, b4, b5, b6⟩ := q1.2.1.facts
  obtain ⟨c1, c2, c3, c4, c5, c6⟩ := q1.2.2.facts
  have c7 := q1.2.2.lt
  replace q1 := Lib.hid q1
  go_wp2
  refine bodyPost_ret (v := .tuple #[.agg #[.bool false, .string ⟨#[]⟩, .string ⟨#[]⟩], .int .i64 1]) (by simp [results, Tryz.results53, go_sem, c1, c2, c3]) rfl ⟨rfl, ?_⟩
  repeat refine Below.setCell ?_ (by simp only []; omega) _
  exact hB1.out

set_option maxRecDepth 100000 in
set_option maxHeartbeats 2000000 in
theorem RRAdd_bad2 (g1 g2 : Bool) (n1 d1 n2 d2 : ByteArray)  (w : World)
    (v1 : ∀ W, Calls Tryz.prog 49 #[.agg #[.bool g1, .string n1, .string d1]] W fun e w' => e = .returned (.bool true) ∧ Below W.heap.size W w')
    (v2 : ∀ W, Calls Tryz.prog 49 #[.agg #[.bool g2, .string n2, .string d2]] W fun e w' => e = .returned (.bool false) ∧ Below W.heap.size W w') :
    Calls Tryz.prog 53 #[.agg #[.bool g1, .string n1, .string d1], .agg #[.bool g2, .string n2, .string d2]] w fun e w' => e = .returned (.tuple #[.agg #[.bool false, .string ⟨#[]⟩, .string ⟨#[]⟩], .int .i64 1]) ∧ Below w.heap.size w w' := by
  have q0 := Lib.hid (TwoBoxes.new w g1 g2 n1 d1 n2 d2)
  have hB0 := Lib.hid (twoW_below w g1 g2 n1 d1 n2 d2)
  replace v1 := Lib.hid v1
  replace v2 := Lib.hid v2
  go_enter Tryz.func53, Tryz.ntmps53
  go_wp2_with fail
  refine (v1.out _).mono ?_
  rintro e w1 ⟨rfl, hb⟩
  have q1 := q0.out.below hb
  have hB1 := Lib.hid (hB0.out.trans (hb.mono hB0.out.size))
  clear hb
  obtain ⟨a1, a2, a3, a4, a5, a6⟩ := q1.1.facts
  obtain ⟨b1, b2, b3, b4, b5, b6⟩ := q1.2.1.facts
  obtain ⟨c1, c2, c3, c4, c5, c6⟩ := q1.2.2.facts
  have c7 := q1.2.2.lt
  replace q1 := Lib.hid q1
  go_wp2_with fail
  refine (v2.out _).mono ?_
  rintro e w2 ⟨rfl, hb⟩
  have q2 := q1.out.below hb
  have hB2 := Lib.hid (hB1.out.trans (hb.mono hB1.out.size))
  clear a1 a2 a3 a4 a5 a6 b1 b2 b3 b4 b5 b6 c1 c2 c3 c4 c5 c6 c7
  clear hb
  obtain ⟨a1, a2, a3, a4, a5, a6⟩ := q2.1.facts
  obtain ⟨b1, b2, b3, b4, b5, b6⟩ := q2.2.1.facts
  obtain ⟨c1, c2, c3, c4, c5, c6⟩ := q2.2.2.facts
  have c7 := q2.2.2.lt
  replace q2 := Lib.hid q2
  go_wp2
  refine bodyPost_ret (v := .tuple #[.agg #[.bool false, .string ⟨#[]⟩, .string ⟨#[]⟩], .int .i64 1]) (by simp [results, Tryz.results53, go_sem, c1, c2, c3]) rfl ⟨rfl, ?_⟩
  repeat refine Below.setCell ?_ (by simp only []; omega) _
  exact hB2.out

set_option maxRecDepth 100000 in
set_option maxHeartbeats 2000000 in
theorem RRAdd_long1 (g1 g2 : Bool) (n1 d1 n2 d2 : ByteArray)  (w : World)
    (v1 : ∀ W, Calls Tryz.prog 49 #[.agg #[.bool g1, .string n1, .string d1]] W fun e w' => e = .returned (.bool true) ∧ Below W.heap.size W w')
    (v2 : ∀ W, Calls Tryz.prog 49 #[.agg #[.bool g2, .string n2, .string d2]] W fun e w' => e = .returned (.bool true) ∧ Below W.heap.size W w')
    (l1 : ∀ W, Calls Tryz.prog 50 #[.agg #[.bool g1, .string n1, .string d1]] W fun e w' => e = .returned (.bool true) ∧ Below W.heap.size W w') :
    Calls Tryz.prog 53 #[.agg #[.bool g1, .string n1, .string d1], .agg #[.bool g2, .string n2, .string d2]] w fun e w' => e = .returned (.tuple #[.agg #[.bool false, .string ⟨#[]⟩, .string ⟨#[]⟩], .int .i64 2]) ∧ Below w.heap.size w w' := by
  have q0 := Lib.hid (TwoBoxes.new w g1 g2 n1 d1 n2 d2)
  have hB0 := Lib.hid (twoW_below w g1 g2 n1 d1 n2 d2)
  replace v1 := Lib.hid v1
  replace v2 := Lib.hid v2
  replace l1 := Lib.hid l1
  go_enter Tryz.func53, Tryz.ntmps53
  go_wp2_with fail
  refine (v1.out _).mono ?_
  rintro e w1 ⟨rfl, hb⟩
  have q1 := q0.out.below hb
  have hB1 := Lib.hid (hB0.out.trans (hb.mono hB0.out.size))
  clear hb
  obtain ⟨a1, a2, a3, a4, a5, a6⟩ := q1.1.facts
  obtain ⟨b1, b2, b3, b4, b5, b6⟩ := q1.2.1.facts
  obtain ⟨c1, c2, c3, c4, c5, c6⟩ := q1.2.2.facts
  have c7 := q1.2.2.lt
  replace q1 := Lib.hid q1
  go_wp2_with fail
  refine (v2.out _).mono ?_
  rintro e w2 ⟨rfl, hb⟩
  have q2 := q1.out.below hb
  have hB2 := Lib.hid (hB1.out.trans (hb.mono hB1.out.size))
  clear a1 a2 a3 a4 a5 a6 b1 b2 b3 b4 b5 b6 c1 c2 c3 c4 c5 c6 c7
  clear hb
  obtain ⟨a1, a2, a3, a4, a5, a6⟩ := q2.1.facts
  obtain ⟨b1, b2, b3, b4, b5, b6⟩ := q2.2.1.facts
  obtain ⟨c1, c2, c3, c4, c5, c6⟩ := q2.2.2.facts
  have c7 := q2.2.2.lt
  replace q2 := Lib.hid q2
  go_wp2_with fail
  refine (l1.out _).mono ?_
  rintro e w3 ⟨rfl, hb⟩
  have q3 := q2.out.below hb
  have hB3 := Lib.hid (hB2.out.trans (hb.mono hB2.out.size))
  clear a1 a2 a3 a4 a5 a6 b1 b2 b3 b4 b5 b6 c1 c2 c3 c4 c5 c6 c7
  clear hb
  obtain ⟨a1, a2, a3, a4, a5, a6⟩ := q3.1.facts
  obtain ⟨b1, b2, b3, b4, b5, b6⟩ := q3.2.1.facts
  obtain ⟨c1, c2, c3, c4, c5, c6⟩ := q3.2.2.facts
  have c7 := q3.2.2.lt
  replace q3 := Lib.hid q3
  go_wp2
  refine bodyPost_ret (v := .tuple #[.agg #[.bool false, .string ⟨#[]⟩, .string ⟨#[]⟩], .int .i64 2]) (by simp [results, Tryz.results53, go_sem, c1, c2, c3]) rfl ⟨rfl, ?_⟩
  repeat refine Below.setCell ?_ (by simp only []; omega) _
  exact hB3.out

set_option maxRecDepth 100000 in
set_option maxHeartbeats 2000000 in
theorem RRAdd_long2 (g1 g2 : Bool) (n1 d1 n2 d2 : ByteArray)  (w : World)
    (v1 : ∀ W, Calls Tryz.prog 49 #[.agg #[.bool g1, .string n1, .string d1]] W fun e w' => e = .returned (.bool true) ∧ Below W.heap.size W w')
    (v2 : ∀ W, Calls Tryz.prog 49 #[.agg #[.bool g2, .string n2, .string d2]] W fun e w' => e = .returned (.bool true) ∧ Below W.heap.size W w')
    (l1 : ∀ W, Calls Tryz.prog 50 #[.agg #[.bool g1, .string n1, .string d1]] W fun e w' => e = .returned (.bool false) ∧ Below W.heap.size W w')
    (l2 : ∀ W, Calls Tryz.prog 50 #[.agg #[.bool g2, .string n2, .string d2]] W fun e w' => e = .returned (.bool true) ∧ Below W.heap.size W w') :
    Calls Tryz.prog 53 #[.agg #[.bool g1, .string n1, .string d1], .agg #[.bool g2, .string n2, .string d2]] w fun e w' => e = .returned (.tuple #[.agg #[.bool false, .string ⟨#[]⟩, .string ⟨#[]⟩], .int .i64 2]) ∧ Below w.heap.size w w' := by
  have q0 := Lib.hid (TwoBoxes.new w g1 g2 n1 d1 n2 d2)
  have hB0 := Lib.hid (twoW_below w g1 g2 n1 d1 n2 d2)
  replace v1 := Lib.hid v1
  replace v2 := Lib.hid v2
  replace l1 := Lib.hid l1
  replace l2 := Lib.hid l2
  go_enter Tryz.func53, Tryz.ntmps53
  go_wp2_with fail
  refine (v1.out _).mono ?_
  rintro e w1 ⟨rfl, hb⟩
  have q1 := q0.out.below hb
  have hB1 := Lib.hid (hB0.out.trans (hb.mono hB0.out.size))
  clear hb
  obtain ⟨a1, a2, a3, a4, a5, a6⟩ := q1.1.facts
  obtain ⟨b1, b2, b3, b4, b5, b6⟩ := q1.2.1.facts
  obtain ⟨c1, c2, c3, c4, c5, c6⟩ := q1.2.2.facts
  have c7 := q1.2.2.lt
  replace q1 := Lib.hid q1
  go_wp2_with fail
  refine (v2.out _).mono ?_
  rintro e w2 ⟨rfl, hb⟩
  have q2 := q1.out.below hb
  have hB2 := Lib.hid (hB1.out.trans (hb.mono hB1.out.size))
  clear a1 a2 a3 a4 a5 a6 b1 b2 b3 b4 b5 b6 c1 c2 c3 c4 c5 c6 c7
  clear hb
  obtain ⟨a1, a2, a3, a4, a5, a6⟩ := q2.1.facts
  obtain ⟨b1, b2, b3, b4, b5, b6⟩ := q2.2.1.facts
  obtain ⟨c1, c2, c3, c4, c5, c6⟩ := q2.2.2.facts
  have c7 := q2.2.2.lt
  replace q2 := Lib.hid q2
  go_wp2_with fail
  refine (l1.out _).mono ?_
  rintro e w3 ⟨rfl, hb⟩
  have q3 := q2.out.below hb
  have hB3 := Lib.hid (hB2.out.trans (hb.mono hB2.out.size))
  clear a1 a2 a3 a4 a5 a6 b1 b2 b3 b4 b5 b6 c1 c2 c3 c4 c5 c6 c7
  clear hb
  obtain ⟨a1, a2, a3, a4, a5, a6⟩ := q3.1.facts
  obtain ⟨b1, b2, b3, b4, b5, b6⟩ := q3.2.1.facts
  obtain ⟨c1, c2, c3, c4, c5, c6⟩ := q3.2.2.facts
  have c7 := q3.2.2.lt
  replace q3 := Lib.hid q3
  go_wp2_with fail
  refine (l2.out _).mono ?_
  rintro e w4 ⟨rfl, hb⟩
  have q4 := q3.out.below hb
  have hB4 := Lib.hid (hB3.out.trans (hb.mono hB3.out.size))
  clear a1 a2 a3 a4 a5 a6 b1 b2 b3 b4 b5 b6 c1 c2 c3 c4 c5 c6 c7
  clear hb
  obtain ⟨a1, a2, a3, a4, a5, a6⟩ := q4.1.facts
  obtain ⟨b1, b2, b3, b4, b5, b6⟩ := q4.2.1.facts
  obtain ⟨c1, c2, c3, c4, c5, c6⟩ := q4.2.2.facts
  have c7 := q4.2.2.lt
  replace q4 := Lib.hid q4
  go_wp2
  refine bodyPost_ret (v := .tuple #[.agg #[.bool false, .string ⟨#[]⟩, .string ⟨#[]⟩], .int .i64 2]) (by simp [results, Tryz.results53, go_sem, c1, c2, c3]) rfl ⟨rfl, ?_⟩
  repeat refine Below.setCell ?_ (by simp only []; omega) _
  exact hB4.out

set_option maxRecDepth 100000 in
set_option maxHeartbeats 2000000 in
theorem RRSub_bad1 (g1 g2 : Bool) (n1 d1 n2 d2 : ByteArray)  (w : World)
    (v1 : ∀ W, Calls Tryz.prog 49 #[.agg #[.bool g1, .string n1, .string d1]] W fun e w' => e = .returned (.bool false) ∧ Below W.heap.size W w') :
    Calls Tryz.prog 37 #[.agg #[.bool g1, .string n1, .string d1], .agg #[.bool g2, .string n2, .string d2]] w fun e w' => e = .returned (.tuple #[.agg #[.bool false, .string ⟨#[]⟩, .string ⟨#[]⟩], .int .i64 1]) ∧ Below w.heap.size w w' := by
  have q0 := Lib.hid (TwoBoxes.new w g1 g2 n1 d1 n2 d2)
  have hB0 := Lib.hid (twoW_below w g1 g2 n1 d1 n2 d2)
  replace v1 := Lib.hid v1
  go_enter Tryz.func37, Tryz.ntmps37
  go_wp2_with fail
  refine (v1.out _).mono ?_
  rintro e w1 ⟨rfl, hb⟩
  have q1 := q0.out.below hb
  have hB1 := Lib.hid (hB0.out.trans (hb.mono hB0.out.size))
  clear hb
  obtain ⟨a1, a2, a3, a4, a5, a6⟩ := q1.1.facts
  obtain ⟨b1, b2, b3, b4, b5, b6⟩ := q1.2.1.facts
  obtain ⟨c1, c2, c3, c4, c5, c6⟩ := q1.2.2.facts
  have c7 := q1.2.2.lt
  replace q1 := Lib.hid q1
  go_wp2
  refine bodyPost_ret (v := .tuple #[.agg #[.bool false, .string ⟨#[]⟩, .string ⟨#[]⟩], .int .i64 1]) (by simp [results, Tryz.results37, go_sem, c1, c2, c3]) rfl ⟨rfl, ?_⟩
  repeat refine Below.setCell ?_ (by simp only []; omega) _
  exact hB1.out

set_option maxRecDepth 100000 in
set_option maxHeartbeats 2000000 in
theorem RRSub_bad2 (g1 g2 : Bool) (n1 d1 n2 d2 : ByteArray)  (w : World)
    (v1 : ∀ W, Calls Tryz.prog 49 #[.agg #[.bool g1, .string n1, .string d1]] W fun e w' => e = .returned (.bool true) ∧ Below W.heap.size W w')
    (v2 : ∀ W, Calls Tryz.prog 49 #[.agg #[.bool g2, .string n2, .string d2]] W fun e w' => e = .returned (.bool false) ∧ Below W.heap.size W w') :
    Calls Tryz.prog 37 #[.agg #[.bool g1, .string n1, .string d1], .agg #[.bool g2, .string n2, .string d2]] w fun e w' => e = .returned (.tuple #[.agg #[.bool false, .string ⟨#[]⟩, .string ⟨#[]⟩], .int .i64 1]) ∧ Below w.heap.size w w' := by
  have q0 := Lib.hid (TwoBoxes.new w g1 g2 n1 d1 n2 d2)
  have hB0 := Lib.hid (twoW_below w g1 g2 n1 d1 n2 d2)
  replace v1 := Lib.hid v1
  replace v2 := Lib.hid v2
  go_enter Tryz.func37, Tryz.ntmps37
  go_wp2_with fail
  refine (v1.out _).mono ?_
  rintro e w1 ⟨rfl, hb⟩
  have q1 := q0.out.below hb
  have hB1 := Lib.hid (hB0.out.trans (hb.mono hB0.out.size))
  clear hb
  obtain ⟨a1, a2, a3, a4, a5, a6⟩ := q1.1.facts
  obtain ⟨b1, b2, b3, b4, b5, b6⟩ := q1.2.1.facts
  obtain ⟨c1, c2, c3, c4, c5, c6⟩ := q1.2.2.facts
  have c7 := q1.2.2.lt
  replace q1 := Lib.hid q1
  go_wp2_with fail
  refine (v2.out _).mono ?_
  rintro e w2 ⟨rfl, hb⟩
  have q2 := q1.out.below hb
  have hB2 := Lib.hid (hB1.out.trans (hb.mono hB1.out.size))
  clear a1 a2 a3 a4 a5 a6 b1 b2 b3 b4 b5 b6 c1 c2 c3 c4 c5 c6 c7
  clear hb
  obtain ⟨a1, a2, a3, a4, a5, a6⟩ := q2.1.facts
  obtain ⟨b1, b2, b3, b4, b5, b6⟩ := q2.2.1.facts
  obtain ⟨c1, c2, c3, c4, c5, c6⟩ := q2.2.2.facts
  have c7 := q2.2.2.lt
  replace q2 := Lib.hid q2
  go_wp2
  refine bodyPost_ret (v := .tuple #[.agg #[.bool false, .string ⟨#[]⟩, .string ⟨#[]⟩], .int .i64 1]) (by simp [results, Tryz.results37, go_sem, c1, c2, c3]) rfl ⟨rfl, ?_⟩
  repeat refine Below.setCell ?_ (by simp only []; omega) _
  exact hB2.out

set_option maxRecDepth 100000 in
set_option maxHeartbeats 2000000 in
theorem RRMul_bad1 (g1 g2 : Bool) (n1 d1 n2 d2 : ByteArray)  (w : World)
    (v1 : ∀ W, Calls Tryz.prog 49 #[.agg #[.bool g1, .string n1, .string d1]] W fun e w' => e = .returned (.bool false) ∧ Below W.heap.size W w') :
    Calls Tryz.prog 36 #[.agg #[.bool g1, .string n1, .string d1], .agg #[.bool g2, .string n2, .string d2]] w fun e w' => e = .returned (.tuple #[.agg #[.bool false, .string ⟨#[]⟩, .string ⟨#[]⟩], .int .i64 1]) ∧ Below w.heap.size w w' := by
  have q0 := Lib.hid (TwoBoxes.new w g1 g2 n1 d1 n2 d2)
  have hB0 := Lib.hid (twoW_below w g1 g2 n1 d1 n2 d2)
  replace v1 := Lib.hid v1
  go_enter Tryz.func36, Tryz.ntmps36
  go_wp2_with fail
  refine (v1.out _).mono ?_
  rintro e w1 ⟨rfl, hb⟩
  have q1 := q0.out.below hb
  have hB1 := Lib.hid (hB0.out.trans (hb.mono hB0.out.size))
  clear hb
  obtain ⟨a1, a2, a3, a4, a5, a6⟩ := q1.1.facts
  obtain ⟨b1, b2, b3, b4, b5, b6⟩ := q1.2.1.facts
  obtain ⟨c1, c2, c3, c4, c5, c6⟩ := q1.2.2.facts
  have c7 := q1.2.2.lt
  replace q1 := Lib.hid q1
  go_wp2
  refine bodyPost_ret (v := .tuple #[.agg #[.bool false, .string ⟨#[]⟩, .string ⟨#[]⟩], .int .i64 1]) (by simp [results, Tryz.results36, go_sem, c1, c2, c3]) rfl ⟨rfl, ?_⟩
  repeat refine Below.setCell ?_ (by simp only []; omega) _
  exact hB1.out

set_option maxRecDepth 100000 in
set_option maxHeartbeats 2000000 in
theorem RRMul_bad2 (g1 g2 : Bool) (n1 d1 n2 d2 : ByteArray)  (w : World)
    (v1 : ∀ W, Calls Tryz.prog 49 #[.agg #[.bool g1, .string n1, .string d1]] W fun e w' => e = .returned (.bool true) ∧ Below W.heap.size W w')
    (v2 : ∀ W, Calls Tryz.prog 49 #[.agg #[.bool g2, .string n2, .string d2]] W fun e w' => e = .returned (.bool false) ∧ Below W.heap.size W w') :
    Calls Tryz.prog 36 #[.agg #[.bool g1, .string n1, .string d1], .agg #[.bool g2, .string n2, .string d2]] w fun e w' => e = .returned (.tuple #[.agg #[.bool false, .string ⟨#[]⟩, .string ⟨#[]⟩], .int .i64 1]) ∧ Below w.heap.size w w' := by
  have q0 := Lib.hid (TwoBoxes.new w g1 g2 n1 d1 n2 d2)
  have hB0 := Lib.hid (twoW_below w g1 g2 n1 d1 n2 d2)
  replace v1 := Lib.hid v1
  replace v2 := Lib.hid v2
  go_enter Tryz.func36, Tryz.ntmps36
  go_wp2_with fail
  refine (v1.out _).mono ?_
  rintro e w1 ⟨rfl, hb⟩
  have q1 := q0.out.below hb
  have hB1 := Lib.hid (hB0.out.trans (hb.mono hB0.out.size))
  clear hb
  obtain ⟨a1, a2, a3, a4, a5, a6⟩ := q1.1.facts
  obtain ⟨b1, b2, b3, b4, b5, b6⟩ := q1.2.1.facts
  obtain ⟨c1, c2, c3, c4, c5, c6⟩ := q1.2.2.facts
  have c7 := q1.2.2.lt
  replace q1 := Lib.hid q1
  go_wp2_with fail
  refine (v2.out _).mono ?_
  rintro e w2 ⟨rfl, hb⟩
  have q2 := q1.out.below hb
  have hB2 := Lib.hid (hB1.out.trans (hb.mono hB1.out.size))
  clear a1 a2 a3 a4 a5 a6 b1 b2 b3 b4 b5 b6 c1 c2 c3 c4 c5 c6 c7
  clear hb
  obtain ⟨a1, a2, a3, a4, a5, a6⟩ := q2.1.facts
  obtain ⟨b1, b2, b3, b4, b5, b6⟩ := q2.2.1.facts
  obtain ⟨c1, c2, c3, c4, c5, c6⟩ := q2.2.2.facts
  have c7 := q2.2.2.lt
  replace q2 := Lib.hid q2
  go_wp2
  refine bodyPost_ret (v := .tuple #[.agg #[.bool false, .string ⟨#[]⟩, .string ⟨#[]⟩], .int .i64 1]) (by simp [results, Tryz.results36, go_sem, c1, c2, c3]) rfl ⟨rfl, ?_⟩
  repeat refine Below.setCell ?_ (by simp only []; omega) _
  exact hB2.out

set_option maxRecDepth 100000 in
set_option maxHeartbeats 2000000 in
theorem RRMul_long1 (g1 g2 : Bool) (n1 d1 n2 d2 : ByteArray)  (w : World)
    (v1 : ∀ W, Calls Tryz.prog 49 #[.agg #[.bool g1, .string n1, .string d1]] W fun e w' => e = .returned (.bool true) ∧ Below W.heap.size W w')
    (v2 : ∀ W, Calls Tryz.prog 49 #[.agg #[.bool g2, .string n2, .string d2]] W fun e w' => e = .returned (.bool true) ∧ Below W.heap.size W w')
    (l1 : ∀ W, Calls Tryz.prog 50 #[.agg #[.bool g1, .string n1, .string d1]] W fun e w' => e = .returned (.bool true) ∧ Below W.heap.size W w') :
    Calls Tryz.prog 36 #[.agg #[.bool g1, .string n1, .string d1], .agg #[.bool g2, .string n2, .string d2]] w fun e w' => e = .returned (.tuple #[.agg #[.bool false, .string ⟨#[]⟩, .string ⟨#[]⟩], .int .i64 2]) ∧ Below w.heap.size w w' := by
  have q0 := Lib.hid (TwoBoxes.new w g1 g2 n1 d1 n2 d2)
  have hB0 := Lib.hid (twoW_below w g1 g2 n1 d1 n2 d2)
  replace v1 := Lib.hid v1
  replace v2 := Lib.hid v2
  replace l1 := Lib.hid l1
  go_enter Tryz.func36, Tryz.ntmps36
  go_wp2_with fail
  refine (v1.out _).mono ?_
  rintro e w1 ⟨rfl, hb⟩
  have q1 := q0.out.below hb
  have hB1 := Lib.hid (hB0.out.trans (hb.mono hB0.out.size))
  clear hb
  obtain ⟨a1, a2, a3, a4, a5, a6⟩ := q1.1.facts
  obtain ⟨b1, b2, b3, b4, b5, b6⟩ := q1.2.1.facts
  obtain ⟨c1, c2, c3, c4, c5, c6⟩ := q1.2.2.facts
  have c7 := q1.2.2.lt
  replace q1 := Lib.hid q1
  go_wp2_with fail
  refine (v2.out _).mono ?_
  rintro e w2 ⟨rfl, hb⟩
  have q2 := q1.out.below hb
  have hB2 := Lib.hid (hB1.out.trans (hb.mono hB1.out.size))
  clear a1 a2 a3 a4 a5 a6 b1 b2 b3 b4 b5 b6 c1 c2 c3 c4 c5 c6 c7
  clear hb
  obtain ⟨a1, a2, a3, a4, a5, a6⟩ := q2.1.facts
  obtain ⟨b1, b2, b3, b4, b5, b6⟩ := q2.2.1.facts
  obtain ⟨c1, c2, c3, c4, c5, c6⟩ := q2.2.2.facts
  have c7 := q2.2.2.lt
  replace q2 := Lib.hid q2
  go_wp2_with fail
  refine (l1.out _).mono ?_
  rintro e w3 ⟨rfl, hb⟩
  have q3 := q2.out.below hb
  have hB3 := Lib.hid (hB2.out.trans (hb.mono hB2.out.size))
  clear a1 a2 a3 a4 a5 a6 b1 b2 b3 b4 b5 b6 c1 c2 c3 c4 c5 c6 c7
  clear hb
  obtain ⟨a1, a2, a3, a4, a5, a6⟩ := q3.1.facts
  obtain ⟨b1, b2, b3, b4, b5, b6⟩ := q3.2.1.facts
  obtain ⟨c1, c2, c3, c4, c5, c6⟩ := q3.2.2.facts
  have c7 := q3.2.2.lt
  replace q3 := Lib.hid q3
  go_wp2
  refine bodyPost_ret (v := .tuple #[.agg #[.bool false, .string ⟨#[]⟩, .string ⟨#[]⟩], .int .i64 2]) (by simp [results, Tryz.results36, go_sem, c1, c2, c3]) rfl ⟨rfl, ?_⟩
  repeat refine Below.setCell ?_ (by simp only []; omega) _
  exact hB3.out

set_option maxRecDepth 100000 in
set_option maxHeartbeats 2000000 in
theorem RRMul_long2 (g1 g2 : Bool) (n1 d1 n2 d2 : ByteArray)  (w : World)
    (v1 : ∀ W, Calls Tryz.prog 49 #[.agg #[.bool g1, .string n1, .string d1]] W fun e w' => e = .returned (.bool true) ∧ Below W.heap.size W w')
    (v2 : ∀ W, Calls Tryz.prog 49 #[.agg #[.bool g2, .string n2, .string d2]] W fun e w' => e = .returned (.bool true) ∧ Below W.heap.size W w')
    (l1 : ∀ W, Calls Tryz.prog 50 #[.agg #[.bool g1, .string n1, .string d1]] W fun e w' => e = .returned (.bool false) ∧ Below W.heap.size W w')
    (l2 : ∀ W, Calls Tryz.prog 50 #[.agg #[.bool g2, .string n2, .string d2]] W fun e w' => e = .returned (.bool true) ∧ Below W.heap.size W w') :
    Calls Tryz.prog 36 #[.agg #[.bool g1, .string n1, .string d1], .agg #[.bool g2, .string n2, .string d2]] w fun e w' => e = .returned (.tuple #[.agg #[.bool false, .string ⟨#[]⟩, .string ⟨#[]⟩], .int .i64 2]) ∧ Below w.heap.size w w' := by
  have q0 := Lib.hid (TwoBoxes.new w g1 g2 n1 d1 n2 d2)
  have hB0 := Lib.hid (twoW_below w g1 g2 n1 d1 n2 d2)
  replace v1 := Lib.hid v1
  replace v2 := Lib.hid v2
  replace l1 := Lib.hid l1
  replace l2 := Lib.hid l2
  go_enter Tryz.func36, Tryz.ntmps36
  go_wp2_with fail
  refine (v1.out _).mono ?_
  rintro e w1 ⟨rfl, hb⟩
  have q1 := q0.out.below hb
  have hB1 := Lib.hid (hB0.out.trans (hb.mono hB0.out.size))
  clear hb
  obtain ⟨a1, a2, a3, a4, a5, a6⟩ := q1.1.facts
  obtain ⟨b1, b2, b3, b4, b5, b6⟩ := q1.2.1.facts
  obtain ⟨c1, c2, c3, c4, c5, c6⟩ := q1.2.2.facts
  have c7 := q1.2.2.lt
  replace q1 := Lib.hid q1
  go_wp2_with fail
  refine (v2.out _).mono ?_
  rintro e w2 ⟨rfl, hb⟩
  have q2 := q1.out.below hb
  have hB2 := Lib.hid (hB1.out.trans (hb.mono hB1.out.size))
  clear a1 a2 a3 a4 a5 a6 b1 b2 b3 b4 b5 b6 c1 c2 c3 c4 c5 c6 c7
  clear hb
  obtain ⟨a1, a2, a3, a4, a5, a6⟩ := q2.1.facts
  obtain ⟨b1, b2, b3, b4, b5, b6⟩ := q2.2.1.facts
  obtain ⟨c1, c2, c3, c4, c5, c6⟩ := q2.2.2.facts
  have c7 := q2.2.2.lt
  replace q2 := Lib.hid q2
  go_wp2_with fail
  refine (l1.out _).mono ?_
  rintro e w3 ⟨rfl, hb⟩
  have q3 := q2.out.below hb
  have hB3 := Lib.hid (hB2.out.trans (hb.mono hB2.out.size))
  clear a1 a2 a3 a4 a5 a6 b1 b2 b3 b4 b5 b6 c1 c2 c3 c4 c5 c6 c7
  clear hb
  obtain ⟨a1, a2, a3, a4, a5, a6⟩ := q3.1.facts
  obtain ⟨b1, b2, b3, b4, b5, b6⟩ := q3.2.1.facts
  obtain ⟨c1, c2, c3, c4, c5, c6⟩ := q3.2.2.facts
  have c7 := q3.2.2.lt
  replace q3 := Lib.hid q3
  go_wp2_with fail
  refine (l2.out _).mono ?_
  rintro e w4 ⟨rfl, hb⟩
  have q4 := q3.out.below hb
  have hB4 := Lib.hid (hB3.out.trans (hb.mono hB3.out.size))
  clear a1 a2 a3 a4 a5 a6 b1 b2 b3 b4 b5 b6 c1 c2 c3 c4 c5 c6 c7
  clear hb
  obtain ⟨a1, a2, a3, a4, a5, a6⟩ := q4.1.facts
  obtain ⟨b1, b2, b3, b4, b5, b6⟩ := q4.2.1.facts
  obtain ⟨c1, c2, c3, c4, c5, c6⟩ := q4.2.2.facts
  have c7 := q4.2.2.lt
  replace q4 := Lib.hid q4
  go_wp2
  refine bodyPost_ret (v := .tuple #[.agg #[.bool false, .string ⟨#[]⟩, .string ⟨#[]⟩], .int .i64 2]) (by simp [results, Tryz.results36, go_sem, c1, c2, c3]) rfl ⟨rfl, ?_⟩
  repeat refine Below.setCell ?_ (by simp only []; omega) _
  exact hB4.out

set_option maxRecDepth 100000 in
set_option maxHeartbeats 2000000 in
theorem RRDiv_bad1 (g1 g2 : Bool) (n1 d1 n2 d2 : ByteArray)  (w : World)
    (v1 : ∀ W, Calls Tryz.prog 49 #[.agg #[.bool g1, .string n1, .string d1]] W fun e w' => e = .returned (.bool false) ∧ Below W.heap.size W w') :
    Calls Tryz.prog 35 #[.agg #[.bool g1, .string n1, .string d1], .agg #[.bool g2, .string n2, .string d2]] w fun e w' => e = .returned (.tuple #[.agg #[.bool false, .string ⟨#[]⟩, .string ⟨#[]⟩], .int .i64 1]) ∧ Below w.heap.size w w' := by
  have q0 := Lib.hid (TwoBoxes.new w g1 g2 n1 d1 n2 d2)
  have hB0 := Lib.hid (twoW_below w g1 g2 n1 d1 n2 d2)
  replace v1 := Lib.hid v1
  go_enter Tryz.func35, Tryz.ntmps35
  go_wp2_with fail
  refine (v1.out _).mono ?_
  rintro e w1 ⟨rfl, hb⟩
  have q1 := q0.out.below hb
  have hB1 := Lib.hid (hB0.out.trans (hb.mono hB0.out.size))
  clear hb
  obtain ⟨a1, a2, a3, a4, a5, a6⟩ := q1.1.facts
  obtain ⟨b1, b2, b3, b4, b5, b6⟩ := q1.2.1.facts
  obtain ⟨c1, c2, c3, c4, c5, c6⟩ := q1.2.2.facts
  have c7 := q1.2.2.lt
  replace q1 := Lib.hid q1
  go_wp2
  refine bodyPost_ret (v := .tuple #[.agg #[.bool false, .string ⟨#[]⟩, .string ⟨#[]⟩], .int .i64 1]) (by simp [results, Tryz.results35, go_sem, c1, c2, c3]) rfl ⟨rfl, ?_⟩
  repeat refine Below.setCell ?_ (by simp only []; omega) _
  exact hB1.out

set_option maxRecDepth 100000 in
set_option maxHeartbeats 2000000 in
theorem RRDiv_bad2 (g1 g2 : Bool) (n1 d1 n2 d2 : ByteArray)  (w : World)
    (v1 : ∀ W, Calls Tryz.prog 49 #[.agg #[.bool g1, .string n1, .string d1]] W fun e w' => e = .returned (.bool true) ∧ Below W.heap.size W w')
    (v2 : ∀ W, Calls Tryz.prog 49 #[.agg #[.bool g2, .string n2, .string d2]] W fun e w' => e = .returned (.bool false) ∧ Below W.heap.size W w') :
    Calls Tryz.prog 35 #[.agg #[.bool g1, .string n1, .string d1], .agg #[.bool g2, .string n2, .string d2]] w fun e w' => e = .returned (.tuple #[.agg #[.bool false, .string ⟨#[]⟩, .string ⟨#[]⟩], .int .i64 1]) ∧ Below w.heap.size w w' := by
  have q0 := Lib.hid (TwoBoxes.new w g1 g2 n1 d1 n2 d2)
  have hB0 := Lib.hid (twoW_below w g1 g2 n1 d1 n2 d2)
  replace v1 := Lib.hid v1
  replace v2 := Lib.hid v2
  go_enter Tryz.func35, Tryz.ntmps35
  go_wp2_with fail
  refine (v1.out _).mono ?_
  rintro e w1 ⟨rfl, hb⟩
  have q1 := q0.out.below hb
  have hB1 := Lib.hid (hB0.out.trans (hb.mono hB0.out.size))
  clear hb
  obtain ⟨a1, a2, a3, a4, a5, a6⟩ := q1.1.facts
  obtain ⟨b1, b2, b3, b4, b5, b6⟩ := q1.2.1.facts
  obtain ⟨c1, c2, c3, c4, c5, c6⟩ := q1.2.2.facts
  have c7 := q1.2.2.lt
  replace q1 := Lib.hid q1
  go_wp2_with fail
  refine (v2.out _).mono ?_
  rintro e w2 ⟨rfl, hb⟩
  have q2 := q1.out.below hb
  have hB2 := Lib.hid (hB1.out.trans (hb.mono hB1.out.size))
  clear a1 a2 a3 a4 a5 a6 b1 b2 b3 b4 b5 b6 c1 c2 c3 c4 c5 c6 c7
  clear hb
  obtain ⟨a1, a2, a3, a4, a5, a6⟩ := q2.1.facts
  obtain ⟨b1, b2, b3, b4, b5, b6⟩ := q2.2.1.facts
  obtain ⟨c1, c2, c3, c4, c5, c6⟩ := q2.2.2.facts
  have c7 := q2.2.2.lt
  replace q2 := Lib.hid q2
  go_wp2
  refine bodyPost_ret (v := .tuple #[.agg #[.bool false, .string ⟨#[]⟩, .string ⟨#[]⟩], .int .i64 1]) (by simp [results, Tryz.results35, go_sem, c1, c2, c3]) rfl ⟨rfl, ?_⟩
  repeat refine Below.setCell ?_ (by simp only []; omega) _
  exact hB2.out

set_option maxRecDepth 100000 in
set_option maxHeartbeats 2000000 in
theorem RRAdd_same (g1 : Bool) (n1 d1 n2 d2 : ByteArray) (x y z s : ByteArray) (r : Bool) (n d : ByteArray) (E : Int) (w : World)
    (v1 : ∀ W, Calls Tryz.prog 49 #[.agg #[.bool g1, .string n1, .string d1]] W fun e w' => e = .returned (.bool true) ∧ Below W.heap.size W w')
    (v2 : ∀ W, Calls Tryz.prog 49 #[.agg #[.bool g1, .string n2, .string d2]] W fun e w' => e = .returned (.bool true) ∧ Below W.heap.size W w')
    (l1 : ∀ W, Calls Tryz.prog 50 #[.agg #[.bool g1, .string n1, .string d1]] W fun e w' => e = .returned (.bool false) ∧ Below W.heap.size W w')
    (l2 : ∀ W, Calls Tryz.prog 50 #[.agg #[.bool g1, .string n2, .string d2]] W fun e w' => e = .returned (.bool false) ∧ Below W.heap.size W w')
    (mx : ∀ W, Calls Tryz.prog 51 #[.string n1, .string d2] W fun e w' => e = .returned (.tuple #[.string x, .int .i64 0]) ∧ Below W.heap.size W w')
    (my : ∀ W, Calls Tryz.prog 51 #[.string n2, .string d1] W fun e w' => e = .returned (.tuple #[.string y, .int .i64 0]) ∧ Below W.heap.size W w')
    (mz : ∀ W, Calls Tryz.prog 51 #[.string d1, .string d2] W fun e w' => e = .returned (.tuple #[.string z, .int .i64 0]) ∧ Below W.heap.size W w')
    (ks : ∀ W, Calls Tryz.prog 72 #[.string x, .string y] W fun e w' => e = .returned (.tuple #[.string s, .int .i64 0]) ∧ Below W.heap.size W w')
    (kr : ∀ W, Calls Tryz.prog 52 #[.bool g1, .string s, .string z] W fun e w' => e = .returned (.tuple #[.agg #[.bool r, .string n, .string d], .int .i64 E]) ∧ Below W.heap.size W w') :
    Calls Tryz.prog 53 #[.agg #[.bool g1, .string n1, .string d1], .agg #[.bool g1, .string n2, .string d2]] w fun e w' => e = .returned (.tuple #[.agg #[.bool r, .string n, .string d], .int .i64 E]) ∧ Below w.heap.size w w' := by
  have q0 := Lib.hid (TwoBoxes.new w g1 g1 n1 d1 n2 d2)
  have hB0 := Lib.hid (twoW_below w g1 g1 n1 d1 n2 d2)
  replace v1 := Lib.hid v1
  replace v2 := Lib.hid v2
  replace l1 := Lib.hid l1
  replace l2 := Lib.hid l2
  replace mx := Lib.hid mx
  replace my := Lib.hid my
  replace mz := Lib.hid mz
  replace ks := Lib.hid ks
  replace kr := Lib.hid kr
  go_enter Tryz.func53, Tryz.ntmps53
  go_wp2_with fail
  refine (v1.out _).mono ?_
  rintro e w1 ⟨rfl, hb⟩
  have q1 := q0.out.below hb
  have hB1 := Lib.hid (hB0.out.trans (hb.mono hB0.out.size))
  clear hb
  obtain ⟨a1, a2, a3, a4, a5, a6⟩ := q1.1.facts
  obtain ⟨b1, b2, b3, b4, b5, b6⟩ := q1.2.1.facts
  obtain ⟨c1, c2, c3, c4, c5, c6⟩ := q1.2.2.facts
  have c7 := q1.2.2.lt
  replace q1 := Lib.hid q1
  go_wp2_with fail
  refine (v2.out _).mono ?_
  rintro e w2 ⟨rfl, hb⟩
  have q2 := q1.out.below hb
  have hB2 := Lib.hid (hB1.out.trans (hb.mono hB1.out.size))
  clear a1 a2 a3 a4 a5 a6 b1 b2 b3 b4 b5 b6 c1 c2 c3 c4 c5 c6 c7
  clear hb
  obtain ⟨a1, a2, a3, a4, a5, a6⟩ := q2.1.facts
  obtain ⟨b1, b2, b3, b4, b5, b6⟩ := q2.2.1.facts
  obtain ⟨c1, c2, c3, c4, c5, c6⟩ := q2.2.2.facts
  have c7 := q2.2.2.lt
  replace q2 := Lib.hid q2
  go_wp2_with fail
  refine (l1.out _).mono ?_
  rintro e w3 ⟨rfl, hb⟩
  have q3 := q2.out.below hb
  have hB3 := Lib.hid (hB2.out.trans (hb.mono hB2.out.size))
  clear a1 a2 a3 a4 a5 a6 b1 b2 b3 b4 b5 b6 c1 c2 c3 c4 c5 c6 c7
  clear hb
  obtain ⟨a1, a2, a3, a4, a5, a6⟩ := q3.1.facts
  obtain ⟨b1, b2, b3, b4, b5, b6⟩ := q3.2.1.facts
  obtain ⟨c1, c2, c3, c4, c5, c6⟩ := q3.2.2.facts
  have c7 := q3.2.2.lt
  replace q3 := Lib.hid q3
  go_wp2_with fail
  refine (l2.out _).mono ?_
  rintro e w4 ⟨rfl, hb⟩
  have q4 := q3.out.below hb
  have hB4 := Lib.hid (hB3.out.trans (hb.mono hB3.out.size))
  clear a1 a2 a3 a4 a5 a6 b1 b2 b3 b4 b5 b6 c1 c2 c3 c4 c5 c6 c7
  clear hb
  obtain ⟨a1, a2, a3, a4, a5, a6⟩ := q4.1.facts
  obtain ⟨b1, b2, b3, b4, b5, b6⟩ := q4.2.1.facts
  obtain ⟨c1, c2, c3, c4, c5, c6⟩ := q4.2.2.facts
  have c7 := q4.2.2.lt
  replace q4 := Lib.hid q4
  go_wp2_with fail
  refine (mx.out _).mono ?_
  rintro e w5 ⟨rfl, hb⟩
  have q5 := q4.out.below hb
  have hB5 := Lib.hid (hB4.out.trans (hb.mono hB4.out.size))
  clear a1 a2 a3 a4 a5 a6 b1 b2 b3 b4 b5 b6 c1 c2 c3 c4 c5 c6 c7
  clear hb
  obtain ⟨a1, a2, a3, a4, a5, a6⟩ := q5.1.facts
  obtain ⟨b1, b2, b3, b4, b5, b6⟩ := q5.2.1.facts
  obtain ⟨c1, c2, c3, c4, c5, c6⟩ := q5.2.2.facts
  have c7 := q5.2.2.lt
  replace q5 := Lib.hid q5
  go_wp2_with fail
  refine (my.out _).mono ?_
  rintro e w6 ⟨rfl, hb⟩
  have q6 := q5.out.below hb
  have hB6 := Lib.hid (hB5.out.trans (hb.mono hB5.out.size))
  clear a1 a2 a3 a4 a5 a6 b1 b2 b3 b4 b5 b6 c1 c2 c3 c4 c5 c6 c7
  clear hb
  obtain ⟨a1, a2, a3, a4, a5, a6⟩ := q6.1.facts
  obtain ⟨b1, b2, b3, b4, b5, b6⟩ := q6.2.1.facts
  obtain ⟨c1, c2, c3, c4, c5, c6⟩ := q6.2.2.facts
  have c7 := q6.2.2.lt
  replace q6 := Lib.hid q6
  go_wp2_with fail
  refine (mz.out _).mono ?_
  rintro e w7 ⟨rfl, hb⟩
  have q7 := q6.out.below hb
  have hB7 := Lib.hid (hB6.out.trans (hb.mono hB6.out.size))
  clear a1 a2 a3 a4 a5 a6 b1 b2 b3 b4 b5 b6 c1 c2 c3 c4 c5 c6 c7
  clear hb
  obtain ⟨a1, a2, a3, a4, a5, a6⟩ := q7.1.facts
  obtain ⟨b1, b2, b3, b4, b5, b6⟩ := q7.2.1.facts
  obtain ⟨c1, c2, c3, c4, c5, c6⟩ := q7.2.2.facts
  have c7 := q7.2.2.lt
  replace q7 := Lib.hid q7
  go_wp2_with fail
  refine (ks.out _).mono ?_
  rintro e w8 ⟨rfl, hb⟩
  have q8 := q7.out.below hb
  have hB8 := Lib.hid (hB7.out.trans (hb.mono hB7.out.size))
  clear a1 a2 a3 a4 a5 a6 b1 b2 b3 b4 b5 b6 c1 c2 c3 c4 c5 c6 c7
  clear hb
  obtain ⟨a1, a2, a3, a4, a5, a6⟩ := q8.1.facts
  obtain ⟨b1, b2, b3, b4, b5, b6⟩ := q8.2.1.facts
  obtain ⟨c1, c2, c3, c4, c5, c6⟩ := q8.2.2.facts
  have c7 := q8.2.2.lt
  replace q8 := Lib.hid q8
  go_wp2_with fail
  refine (kr.out _).mono ?_
  rintro e w9 ⟨rfl, hb⟩
  have q9 := q8.out.below hb
  have hB9 := Lib.hid (hB8.out.trans (hb.mono hB8.out.size))
  clear a1 a2 a3 a4 a5 a6 b1 b2 b3 b4 b5 b6 c1 c2 c3 c4 c5 c6 c7
  clear hb
  obtain ⟨a1, a2, a3, a4, a5, a6⟩ := q9.1.facts
  obtain ⟨b1, b2, b3, b4, b5, b6⟩ := q9.2.1.facts
  obtain ⟨c1, c2, c3, c4, c5, c6⟩ := q9.2.2.facts
  have c7 := q9.2.2.lt
  replace q9 := Lib.hid q9
  go_wp2
  refine bodyPost_ret (v := .tuple #[.agg #[.bool r, .string n, .string d], .int .i64 E]) (by simp [results, Tryz.results53, go_sem, c1, c2, c3]) rfl ⟨rfl, ?_⟩
  repeat refine Below.setCell ?_ (by simp only []; omega) _
  exact hB9.out

set_option maxRecDepth 100000 in
set_option maxHeartbeats 2000000 in
theorem RRAdd_less (g1 g2 : Bool) (n1 d1 n2 d2 : ByteArray) (x y z s : ByteArray) (r : Bool) (n d : ByteArray) (E : Int) (c : Int) (hc : c < 0) (hg : (g1 == g2) = false) (w : World)
    (v1 : ∀ W, Calls Tryz.prog 49 #[.agg #[.bool g1, .string n1, .string d1]] W fun e w' => e = .returned (.bool true) ∧ Below W.heap.size W w')
    (v2 : ∀ W, Calls Tryz.prog 49 #[.agg #[.bool g2, .string n2, .string d2]] W fun e w' => e = .returned (.bool true) ∧ Below W.heap.size W w')
    (l1 : ∀ W, Calls Tryz.prog 50 #[.agg #[.bool g1, .string n1, .string d1]] W fun e w' => e = .returned (.bool false) ∧ Below W.heap.size W w')
    (l2 : ∀ W, Calls Tryz.prog 50 #[.agg #[.bool g2, .string n2, .string d2]] W fun e w' => e = .returned (.bool false) ∧ Below W.heap.size W w')
    (mx : ∀ W, Calls Tryz.prog 51 #[.string n1, .string d2] W fun e w' => e = .returned (.tuple #[.string x, .int .i64 0]) ∧ Below W.heap.size W w')
    (my : ∀ W, Calls Tryz.prog 51 #[.string n2, .string d1] W fun e w' => e = .returned (.tuple #[.string y, .int .i64 0]) ∧ Below W.heap.size W w')
    (mz : ∀ W, Calls Tryz.prog 51 #[.string d1, .string d2] W fun e w' => e = .returned (.tuple #[.string z, .int .i64 0]) ∧ Below W.heap.size W w')
    (kc : ∀ W, Calls Tryz.prog 73 #[.string x, .string y] W fun e w' => e = .returned (.tuple #[.int .i64 c, .int .i64 0]) ∧ Below W.heap.size W w')
    (ks : ∀ W, Calls Tryz.prog 74 #[.string y, .string x] W fun e w' => e = .returned (.tuple #[.string s, .int .i64 0]) ∧ Below W.heap.size W w')
    (kr : ∀ W, Calls Tryz.prog 52 #[.bool g2, .string s, .string z] W fun e w' => e = .returned (.tuple #[.agg #[.bool r, .string n, .string d], .int .i64 E]) ∧ Below W.heap.size W w') :
    Calls Tryz.prog 53 #[.agg #[.bool g1, .string n1, .string d1], .agg #[.bool g2, .string n2, .string d2]] w fun e w' => e = .returned (.tuple #[.agg #[.bool r, .string n, .string d], .int .i64 E]) ∧ Below w.heap.size w w' := by
  have q0 := Lib.hid (TwoBoxes.new w g1 g2 n1 d1 n2 d2)
  have hB0 := Lib.hid (twoW_below w g1 g2 n1 d1 n2 d2)
  replace v1 := Lib.hid v1
  replace v2 := Lib.hid v2
  replace l1 := Lib.hid l1
  replace l2 := Lib.hid l2
  replace mx := Lib.hid mx
  replace my := Lib.hid my
  replace mz := Lib.hid mz
  replace kc := Lib.hid kc
  replace ks := Lib.hid ks
  replace kr := Lib.hid kr
  go_enter Tryz.func53, Tryz.ntmps53
  go_wp2_with fail
  refine (v1.out _).mono ?_
  rintro e w1 ⟨rfl, hb⟩
  have q1 := q0.out.below hb
  have hB1 := Lib.hid (hB0.out.trans (hb.mono hB0.out.size))
  clear hb
  obtain ⟨a1, a2, a3, a4, a5, a6⟩ := q1.1.facts
  obtain ⟨b1, b2, b3, b4, b5, b6⟩ := q1.2.1.facts
  obtain ⟨c1, c2, c3, c4, c5, c6⟩ := q1.2.2.facts
  have c7 := q1.2.2.lt
  replace q1 := Lib.hid q1
  go_wp2_with fail
  refine (v2.out _).mono ?_
  rintro e w2 ⟨rfl, hb⟩
  have q2 := q1.out.below hb
  have hB2 := Lib.hid (hB1.out.trans (hb.mono hB1.out.size))
  clear a1 a2 a3 a4 a5 a6 b1 b2 b3 b4 b5 b6 c1 c2 c3 c4 c5 c6 c7
  clear hb
  obtain ⟨a1, a2, a3, a4, a5, a6⟩ := q2.1.facts
  obtain ⟨b1, b2, b3, b4, b5, b6⟩ := q2.2.1.facts
  obtain ⟨c1, c2, c3, c4, c5, c6⟩ := q2.2.2.facts
  have c7 := q2.2.2.lt
  replace q2 := Lib.hid q2
  go_wp2_with fail
  refine (l1.out _).mono ?_
  rintro e w3 ⟨rfl, hb⟩
  have q3 := q2.out.below hb
  have hB3 := Lib.hid (hB2.out.trans (hb.mono hB2.out.size))
  clear a1 a2 a3 a4 a5 a6 b1 b2 b3 b4 b5 b6 c1 c2 c3 c4 c5 c6 c7
  clear hb
  obtain ⟨a1, a2, a3, a4, a5, a6⟩ := q3.1.facts
  obtain ⟨b1, b2, b3, b4, b5, b6⟩ := q3.2.1.facts
  obtain ⟨c1, c2, c3, c4, c5, c6⟩ := q3.2.2.facts
  have c7 := q3.2.2.lt
  replace q3 := Lib.hid q3
  go_wp2_with fail
  refine (l2.out _).mono ?_
  rintro e w4 ⟨rfl, hb⟩
  have q4 := q3.out.below hb
  have hB4 := Lib.hid (hB3.out.trans (hb.mono hB3.out.size))
  clear a1 a2 a3 a4 a5 a6 b1 b2 b3 b4 b5 b6 c1 c2 c3 c4 c5 c6 c7
  clear hb
  obtain ⟨a1, a2, a3, a4, a5, a6⟩ := q4.1.facts
  obtain ⟨b1, b2, b3, b4, b5, b6⟩ := q4.2.1.facts
  obtain ⟨c1, c2, c3, c4, c5, c6⟩ := q4.2.2.facts
  have c7 := q4.2.2.lt
  replace q4 := Lib.hid q4
  go_wp2_with fail
  refine (mx.out _).mono ?_
  rintro e w5 ⟨rfl, hb⟩
  have q5 := q4.out.below hb
  have hB5 := Lib.hid (hB4.out.trans (hb.mono hB4.out.size))
  clear a1 a2 a3 a4 a5 a6 b1 b2 b3 b4 b5 b6 c1 c2 c3 c4 c5 c6 c7
  clear hb
  obtain ⟨a1, a2, a3, a4, a5, a6⟩ := q5.1.facts
  obtain ⟨b1, b2, b3, b4, b5, b6⟩ := q5.2.1.facts
  obtain ⟨c1, c2, c3, c4, c5, c6⟩ := q5.2.2.facts
  have c7 := q5.2.2.lt
  replace q5 := Lib.hid q5
  go_wp2_with fail
  refine (my.out _).mono ?_
  rintro e w6 ⟨rfl, hb⟩
  have q6 := q5.out.below hb
  have hB6 := Lib.hid (hB5.out.trans (hb.mono hB5.out.size))
  clear a1 a2 a3 a4 a5 a6 b1 b2 b3 b4 b5 b6 c1 c2 c3 c4 c5 c6 c7
  clear hb
  obtain ⟨a1, a2, a3, a4, a5, a6⟩ := q6.1.facts
  obtain ⟨b1, b2, b3, b4, b5, b6⟩ := q6.2.1.facts
  obtain ⟨c1, c2, c3, c4, c5, c6⟩ := q6.2.2.facts
  have c7 := q6.2.2.lt
  replace q6 := Lib.hid q6
  go_wp2_with fail
  refine (mz.out _).mono ?_
  rintro e w7 ⟨rfl, hb⟩
  have q7 := q6.out.below hb
  have hB7 := Lib.hid (hB6.out.trans (hb.mono hB6.out.size))
  clear a1 a2 a3 a4 a5 a6 b1 b2 b3 b4 b5 b6 c1 c2 c3 c4 c5 c6 c7
  clear hb
  obtain ⟨a1, a2, a3, a4, a5, a6⟩ := q7.1.facts
  obtain ⟨b1, b2, b3, b4, b5, b6⟩ := q7.2.1.facts
  obtain ⟨c1, c2, c3, c4, c5, c6⟩ := q7.2.2.facts
  have c7 := q7.2.2.lt
  replace q7 := Lib.hid q7
  go_wp2_with fail
  refine (kc.out _).mono ?_
  rintro e w8 ⟨rfl, hb⟩
  have q8 := q7.out.below hb
  have hB8 := Lib.hid (hB7.out.trans (hb.mono hB7.out.size))
  clear a1 a2 a3 a4 a5 a6 b1 b2 b3 b4 b5 b6 c1 c2 c3 c4 c5 c6 c7
  clear hb
  obtain ⟨a1, a2, a3, a4, a5, a6⟩ := q8.1.facts
  obtain ⟨b1, b2, b3, b4, b5, b6⟩ := q8.2.1.facts
  obtain ⟨c1, c2, c3, c4, c5, c6⟩ := q8.2.2.facts
  have c7 := q8.2.2.lt
  replace q8 := Lib.hid q8
  go_wp2_with fail
  refine (ks.out _).mono ?_
  rintro e w9 ⟨rfl, hb⟩
  have q9 := q8.out.below hb
  have hB9 := Lib.hid (hB8.out.trans (hb.mono hB8.out.size))
  clear a1 a2 a3 a4 a5 a6 b1 b2 b3 b4 b5 b6 c1 c2 c3 c4 c5 c6 c7
  clear hb
  obtain ⟨a1, a2, a3, a4, a5, a6⟩ := q9.1.facts
  obtain ⟨b1, b2, b3, b4, b5, b6⟩ := q9.2.1.facts
  obtain ⟨c1, c2, c3, c4, c5, c6⟩ := q9.2.2.facts
  have c7 := q9.2.2.lt
  replace q9 := Lib.hid q9
  go_wp2_with fail
  refine (kr.out _).mono ?_
  rintro e w10 ⟨rfl, hb⟩
  have q10 := q9.out.below hb
  have hB10 := Lib.hid (hB9.out.trans (hb.mono hB9.out.size))
  clear a1 a2 a3 a4 a5 a6 b1 b2 b3 b4 b5 b6 c1 c2 c3 c4 c5 c6 c7
  clear hb
  obtain ⟨a1, a2, a3, a4, a5, a6⟩ := q10.1.facts
  obtain ⟨b1, b2, b3, b4, b5, b6⟩ := q10.2.1.facts
  obtain ⟨c1, c2, c3, c4, c5, c6⟩ := q10.2.2.facts
  have c7 := q10.2.2.lt
  replace q10 := Lib.hid q10
  go_wp2
  refine bodyPost_ret (v := .tuple #[.agg #[.bool r, .string n, .string d], .int .i64 E]) (by simp [results, Tryz.results53, go_sem, c1, c2, c3]) rfl ⟨rfl, ?_⟩
  repeat refine Below.setCell ?_ (by simp only []; omega) _
  exact hB10.out

set_option maxRecDepth 100000 in
set_option maxHeartbeats 2000000 in
theorem RRAdd_more (g1 g2 : Bool) (n1 d1 n2 d2 : ByteArray) (x y z s : ByteArray) (r : Bool) (n d : ByteArray) (E : Int) (c : Int) (hc : 0 ≤ c) (hg : (g1 == g2) = false) (w : World)
    (v1 : ∀ W, Calls Tryz.prog 49 #[.agg #[.bool g1, .string n1, .string d1]] W fun e w' => e = .returned (.bool true) ∧ Below W.heap.size W w')
    (v2 : ∀ W, Calls Tryz.prog 49 #[.agg #[.bool g2, .string n2, .string d2]] W fun e w' => e = .returned (.bool true) ∧ Below W.heap.size W w')
    (l1 : ∀ W, Calls Tryz.prog 50 #[.agg #[.bool g1, .string n1, .string d1]] W fun e w' => e = .returned (.bool false) ∧ Below W.heap.size W w')
    (l2 : ∀ W, Calls Tryz.prog 50 #[.agg #[.bool g2, .string n2, .string d2]] W fun e w' => e = .returned (.bool false) ∧ Below W.heap.size W w')
    (mx : ∀ W, Calls Tryz.prog 51 #[.string n1, .string d2] W fun e w' => e = .returned (.tuple #[.string x, .int .i64 0]) ∧ Below W.heap.size W w')
    (my : ∀ W, Calls Tryz.prog 51 #[.string n2, .string d1] W fun e w' => e = .returned (.tuple #[.string y, .int .i64 0]) ∧ Below W.heap.size W w')
    (mz : ∀ W, Calls Tryz.prog 51 #[.string d1, .string d2] W fun e w' => e = .returned (.tuple #[.string z, .int .i64 0]) ∧ Below W.heap.size W w')
    (kc : ∀ W, Calls Tryz.prog 73 #[.string x, .string y] W fun e w' => e = .returned (.tuple #[.int .i64 c, .int .i64 0]) ∧ Below W.heap.size W w')
    (ks : ∀ W, Calls Tryz.prog 74 #[.string x, .string y] W fun e w' => e = .returned (.tuple #[.string s, .int .i64 0]) ∧ Below W.heap.size W w')
    (kr : ∀ W, Calls Tryz.prog 52 #[.bool g1, .string s, .string z] W fun e w' => e = .returned (.tuple #[.agg #[.bool r, .string n, .string d], .int .i64 E]) ∧ Below W.heap.size W w') :
    Calls Tryz.prog 53 #[.agg #[.bool g1, .string n1, .string d1], .agg #[.bool g2, .string n2, .string d2]] w fun e w' => e = .returned (.tuple #[.agg #[.bool r, .string n, .string d], .int .i64 E]) ∧ Below w.heap.size w w' := by
  have q0 := Lib.hid (TwoBoxes.new w g1 g2 n1 d1 n2 d2)
  have hB0 := Lib.hid (twoW_below w g1 g2 n1 d1 n2 d2)
  replace v1 := Lib.hid v1
  replace v2 := Lib.hid v2
  replace l1 := Lib.hid l1
  replace l2 := Lib.hid l2
  replace mx := Lib.hid mx
  replace my := Lib.hid my
  replace mz := Lib.hid mz
  replace kc := Lib.hid kc
  replace ks := Lib.hid ks
  replace kr := Lib.hid kr
  go_enter Tryz.func53, Tryz.ntmps53
  go_wp2_with fail
  refine (v1.out _).mono ?_
  rintro e w1 ⟨rfl, hb⟩
  have q1 := q0.out.below hb
  have hB1 := Lib.hid (hB0.out.trans (hb.mono hB0.out.size))
  clear hb
  obtain ⟨a1, a2, a3, a4, a5, a6⟩ := q1.1.facts
  obtain ⟨b1, b2, b3, b4, b5, b6⟩ := q1.2.1.facts
  obtain ⟨c1, c2, c3, c4, c5, c6⟩ := q1.2.2.facts
  have c7 := q1.2.2.lt
  replace q1 := Lib.hid q1
  go_wp2_with fail
  refine (v2.out _).mono ?_
  rintro e w2 ⟨rfl, hb⟩
  have q2 := q1.out.below hb
  have hB2 := Lib.hid (hB1.out.trans (hb.mono hB1.out.size))
  clear a1 a2 a3 a4 a5 a6 b1 b2 b3 b4 b5 b6 c1 c2 c3 c4 c5 c6 c7
  clear hb
  obtain ⟨a1, a2, a3, a4, a5, a6⟩ := q2.1.facts
  obtain ⟨b1, b2, b3, b4, b5, b6⟩ := q2.2.1.facts
  obtain ⟨c1, c2, c3, c4, c5, c6⟩ := q2.2.2.facts
  have c7 := q2.2.2.lt
  replace q2 := Lib.hid q2
  go_wp2_with fail
  refine (l1.out _).mono ?_
  rintro e w3 ⟨rfl, hb⟩
  have q3 := q2.out.below hb
  have hB3 := Lib.hid (hB2.out.trans (hb.mono hB2.out.size))
  clear a1 a2 a3 a4 a5 a6 b1 b2 b3 b4 b5 b6 c1 c2 c3 c4 c5 c6 c7
  clear hb
  obtain ⟨a1, a2, a3, a4, a5, a6⟩ := q3.1.facts
  obtain ⟨b1, b2, b3, b4, b5, b6⟩ := q3.2.1.facts
  obtain ⟨c1, c2, c3, c4, c5, c6⟩ := q3.2.2.facts
  have c7 := q3.2.2.lt
  replace q3 := Lib.hid q3
  go_wp2_with fail
  refine (l2.out _).mono ?_
  rintro e w4 ⟨rfl, hb⟩
  have q4 := q3.out.below hb
  have hB4 := Lib.hid (hB3.out.trans (hb.mono hB3.out.size))
  clear a1 a2 a3 a4 a5 a6 b1 b2 b3 b4 b5 b6 c1 c2 c3 c4 c5 c6 c7
  clear hb
  obtain ⟨a1, a2, a3, a4, a5, a6⟩ := q4.1.facts
  obtain ⟨b1, b2, b3, b4, b5, b6⟩ := q4.2.1.facts
  obtain ⟨c1, c2, c3, c4, c5, c6⟩ := q4.2.2.facts
  have c7 := q4.2.2.lt
  replace q4 := Lib.hid q4
  go_wp2_with fail
  refine (mx.out _).mono ?_
  rintro e w5 ⟨rfl, hb⟩
  have q5 := q4.out.below hb
  have hB5 := Lib.hid (hB4.out.trans (hb.mono hB4.out.size))
  clear a1 a2 a3 a4 a5 a6 b1 b2 b3 b4 b5 b6 c1 c2 c3 c4 c5 c6 c7
  clear hb
  obtain ⟨a1, a2, a3, a4, a5, a6⟩ := q5.1.facts
  obtain ⟨b1, b2, b3, b4, b5, b6⟩ := q5.2.1.facts
  obtain ⟨c1, c2, c3, c4, c5, c6⟩ := q5.2.2.facts
  have c7 := q5.2.2.lt
  replace q5 := Lib.hid q5
  go_wp2_with fail
  refine (my.out _).mono ?_
  rintro e w6 ⟨rfl, hb⟩
  have q6 := q5.out.below hb
  have hB6 := Lib.hid (hB5.out.trans (hb.mono hB5.out.size))
  clear a1 a2 a3 a4 a5 a6 b1 b2 b3 b4 b5 b6 c1 c2 c3 c4 c5 c6 c7
  clear hb
  obtain ⟨a1, a2, a3, a4, a5, a6⟩ := q6.1.facts
  obtain ⟨b1, b2, b3, b4, b5, b6⟩ := q6.2.1.facts
  obtain ⟨c1, c2, c3, c4, c5, c6⟩ := q6.2.2.facts
  have c7 := q6.2.2.lt
  replace q6 := Lib.hid q6
  go_wp2_with fail
  refine (mz.out _).mono ?_
  rintro e w7 ⟨rfl, hb⟩
  have q7 := q6.out.below hb
  have hB7 := Lib.hid (hB6.out.trans (hb.mono hB6.out.size))
  clear a1 a2 a3 a4 a5 a6 b1 b2 b3 b4 b5 b6 c1 c2 c3 c4 c5 c6 c7
  clear hb
  obtain ⟨a1, a2, a3, a4, a5, a6⟩ := q7.1.facts
  obtain ⟨b1, b2, b3, b4, b5, b6⟩ := q7.2.1.facts
  obtain ⟨c1, c2, c3, c4, c5, c6⟩ := q7.2.2.facts
  have c7 := q7.2.2.lt
  replace q7 := Lib.hid q7
  go_wp2_with fail
  refine (kc.out _).mono ?_
  rintro e w8 ⟨rfl, hb⟩
  have q8 := q7.out.below hb
  have hB8 := Lib.hid (hB7.out.trans (hb.mono hB7.out.size))
  clear a1 a2 a3 a4 a5 a6 b1 b2 b3 b4 b5 b6 c1 c2 c3 c4 c5 c6 c7
  clear hb
  obtain ⟨a1, a2, a3, a4, a5, a6⟩ := q8.1.facts
  obtain ⟨b1, b2, b3, b4, b5, b6⟩ := q8.2.1.facts
  obtain ⟨c1, c2, c3, c4, c5, c6⟩ := q8.2.2.facts
  have c7 := q8.2.2.lt
  replace q8 := Lib.hid q8
  go_wp2_with fail
  refine (ks.out _).mono ?_
  rintro e w9 ⟨rfl, hb⟩
  have q9 := q8.out.below hb
  have hB9 := Lib.hid (hB8.out.trans (hb.mono hB8.out.size))
  clear a1 a2 a3 a4 a5 a6 b1 b2 b3 b4 b5 b6 c1 c2 c3 c4 c5 c6 c7
  clear hb
  obtain ⟨a1, a2, a3, a4, a5, a6⟩ := q9.1.facts
  obtain ⟨b1, b2, b3, b4, b5, b6⟩ := q9.2.1.facts
  obtain ⟨c1, c2, c3, c4, c5, c6⟩ := q9.2.2.facts
  have c7 := q9.2.2.lt
  replace q9 := Lib.hid q9
  go_wp2_with fail
  refine (kr.out _).mono ?_
  rintro e w10 ⟨rfl, hb⟩
  have q10 := q9.out.below hb
  have hB10 := Lib.hid (hB9.out.trans (hb.mono hB9.out.size))
  clear a1 a2 a3 a4 a5 a6 b1 b2 b3 b4 b5 b6 c1 c2 c3 c4 c5 c6 c7
  clear hb
  obtain ⟨a1, a2, a3, a4, a5, a6⟩ := q10.1.facts
  obtain ⟨b1, b2, b3, b4, b5, b6⟩ := q10.2.1.facts
  obtain ⟨c1, c2, c3, c4, c5, c6⟩ := q10.2.2.facts
  have c7 := q10.2.2.lt
  replace q10 := Lib.hid q10
  go_wp2
  refine bodyPost_ret (v := .tuple #[.agg #[.bool r, .string n, .string d], .int .i64 E]) (by simp [results, Tryz.results53, go_sem, c1, c2, c3]) rfl ⟨rfl, ?_⟩
  repeat refine Below.setCell ?_ (by simp only []; omega) _
  exact hB10.out

set_option maxRecDepth 100000 in
set_option maxHeartbeats 2000000 in
theorem RRMul_go (g1 g2 : Bool) (n1 d1 n2 d2 : ByteArray) (x z : ByteArray) (r : Bool) (n d : ByteArray) (E : Int) (w : World)
    (v1 : ∀ W, Calls Tryz.prog 49 #[.agg #[.bool g1, .string n1, .string d1]] W fun e w' => e = .returned (.bool true) ∧ Below W.heap.size W w')
    (v2 : ∀ W, Calls Tryz.prog 49 #[.agg #[.bool g2, .string n2, .string d2]] W fun e w' => e = .returned (.bool true) ∧ Below W.heap.size W w')
    (l1 : ∀ W, Calls Tryz.prog 50 #[.agg #[.bool g1, .string n1, .string d1]] W fun e w' => e = .returned (.bool false) ∧ Below W.heap.size W w')
    (l2 : ∀ W, Calls Tryz.prog 50 #[.agg #[.bool g2, .string n2, .string d2]] W fun e w' => e = .returned (.bool false) ∧ Below W.heap.size W w')
    (mx : ∀ W, Calls Tryz.prog 51 #[.string n1, .string n2] W fun e w' => e = .returned (.tuple #[.string x, .int .i64 0]) ∧ Below W.heap.size W w')
    (mz : ∀ W, Calls Tryz.prog 51 #[.string d1, .string d2] W fun e w' => e = .returned (.tuple #[.string z, .int .i64 0]) ∧ Below W.heap.size W w')
    (kr : ∀ W, Calls Tryz.prog 52 #[.bool (!(g1 == g2)), .string x, .string z] W fun e w' => e = .returned (.tuple #[.agg #[.bool r, .string n, .string d], .int .i64 E]) ∧ Below W.heap.size W w') :
    Calls Tryz.prog 36 #[.agg #[.bool g1, .string n1, .string d1], .agg #[.bool g2, .string n2, .string d2]] w fun e w' => e = .returned (.tuple #[.agg #[.bool r, .string n, .string d], .int .i64 E]) ∧ Below w.heap.size w w' := by
  have q0 := Lib.hid (TwoBoxes.new w g1 g2 n1 d1 n2 d2)
  have hB0 := Lib.hid (twoW_below w g1 g2 n1 d1 n2 d2)
  replace v1 := Lib.hid v1
  replace v2 := Lib.hid v2
  replace l1 := Lib.hid l1
  replace l2 := Lib.hid l2
  replace mx := Lib.hid mx
  replace mz := Lib.hid mz
  replace kr := Lib.hid kr
  go_enter Tryz.func36, Tryz.ntmps36
  go_wp2_with fail
  refine (v1.out _).mono ?_
  rintro e w1 ⟨rfl, hb⟩
  have q1 := q0.out.below hb
  have hB1 := Lib.hid (hB0.out.trans (hb.mono hB0.out.size))
  clear hb
  obtain ⟨a1, a2, a3, a4, a5, a6⟩ := q1.1.facts
  obtain ⟨b1, b2, b3, b4, b5, b6⟩ := q1.2.1.facts
  obtain ⟨c1, c2, c3, c4, c5, c6⟩ := q1.2.2.facts
  have c7 := q1.2.2.lt
  replace q1 := Lib.hid q1
  go_wp2_with fail
  refine (v2.out _).mono ?_
  rintro e w2 ⟨rfl, hb⟩
  have q2 := q1.out.below hb
  have hB2 := Lib.hid (hB1.out.trans (hb.mono hB1.out.size))
  clear a1 a2 a3 a4 a5 a6 b1 b2 b3 b4 b5 b6 c1 c2 c3 c4 c5 c6 c7
  clear hb
  obtain ⟨a1, a2, a3, a4, a5, a6⟩ := q2.1.facts
  obtain ⟨b1, b2, b3, b4, b5, b6⟩ := q2.2.1.facts
  obtain ⟨c1, c2, c3, c4, c5, c6⟩ := q2.2.2.facts
  have c7 := q2.2.2.lt
  replace q2 := Lib.hid q2
  go_wp2_with fail
  refine (l1.out _).mono ?_
  rintro e w3 ⟨rfl, hb⟩
  have q3 := q2.out.below hb
  have hB3 := Lib.hid (hB2.out.trans (hb.mono hB2.out.size))
  clear a1 a2 a3 a4 a5 a6 b1 b2 b3 b4 b5 b6 c1 c2 c3 c4 c5 c6 c7
  clear hb
  obtain ⟨a1, a2, a3, a4, a5, a6⟩ := q3.1.facts
  obtain ⟨b1, b2, b3, b4, b5, b6⟩ := q3.2.1.facts
  obtain ⟨c1, c2, c3, c4, c5, c6⟩ := q3.2.2.facts
  have c7 := q3.2.2.lt
  replace q3 := Lib.hid q3
  go_wp2_with fail
  refine (l2.out _).mono ?_
  rintro e w4 ⟨rfl, hb⟩
  have q4 := q3.out.below hb
  have hB4 := Lib.hid (hB3.out.trans (hb.mono hB3.out.size))
  clear a1 a2 a3 a4 a5 a6 b1 b2 b3 b4 b5 b6 c1 c2 c3 c4 c5 c6 c7
  clear hb
  obtain ⟨a1, a2, a3, a4, a5, a6⟩ := q4.1.facts
  obtain ⟨b1, b2, b3, b4, b5, b6⟩ := q4.2.1.facts
  obtain ⟨c1, c2, c3, c4, c5, c6⟩ := q4.2.2.facts
  have c7 := q4.2.2.lt
  replace q4 := Lib.hid q4
  go_wp2_with fail
  refine (mx.out _).mono ?_
  rintro e w5 ⟨rfl, hb⟩
  have q5 := q4.out.below hb
  have hB5 := Lib.hid (hB4.out.trans (hb.mono hB4.out.size))
  clear a1 a2 a3 a4 a5 a6 b1 b2 b3 b4 b5 b6 c1 c2 c3 c4 c5 c6 c7
  clear hb
  obtain ⟨a1, a2, a3, a4, a5, a6⟩ := q5.1.facts
  obtain ⟨b1, b2, b3, b4, b5, b6⟩ := q5.2.1.facts
  obtain ⟨c1, c2, c3, c4, c5, c6⟩ := q5.2.2.facts
  have c7 := q5.2.2.lt
  replace q5 := Lib.hid q5
  go_wp2_with fail
  refine (mz.out _).mono ?_
  rintro e w6 ⟨rfl, hb⟩
  have q6 := q5.out.below hb
  have hB6 := Lib.hid (hB5.out.trans (hb.mono hB5.out.size))
  clear a1 a2 a3 a4 a5 a6 b1 b2 b3 b4 b5 b6 c1 c2 c3 c4 c5 c6 c7
  clear hb
  obtain ⟨a1, a2, a3, a4, a5, a6⟩ := q6.1.facts
  obtain ⟨b1, b2, b3, b4, b5, b6⟩ := q6.2.1.facts
  obtain ⟨c1, c2, c3, c4, c5, c6⟩ := q6.2.2.facts
  have c7 := q6.2.2.lt
  replace q6 := Lib.hid q6
  go_wp2_with fail
  refine (kr.out _).mono ?_
  rintro e w7 ⟨rfl, hb⟩
  have q7 := q6.out.below hb
  have hB7 := Lib.hid (hB6.out.trans (hb.mono hB6.out.size))
  clear a1 a2 a3 a4 a5 a6 b1 b2 b3 b4 b5 b6 c1 c2 c3 c4 c5 c6 c7
  clear hb
  obtain ⟨a1, a2, a3, a4, a5, a6⟩ := q7.1.facts
  obtain ⟨b1, b2, b3, b4, b5, b6⟩ := q7.2.1.facts
  obtain ⟨c1, c2, c3, c4, c5, c6⟩ := q7.2.2.facts
  have c7 := q7.2.2.lt
  replace q7 := Lib.hid q7
  go_wp2
  refine bodyPost_ret (v := .tuple #[.agg #[.bool r, .string n, .string d], .int .i64 E]) (by simp [results, Tryz.results36, go_sem, c1, c2, c3]) rfl ⟨rfl, ?_⟩
  repeat refine Below.setCell ?_ (by simp only []; omega) _
  exact hB7.out

set_option maxRecDepth 100000 in
set_option maxHeartbeats 2000000 in
theorem RRDiv_zero (g1 g2 : Bool) (n1 d1 n2 d2 : ByteArray) (h0 : (n2.toList == [48]) = true) (w : World)
    (v1 : ∀ W, Calls Tryz.prog 49 #[.agg #[.bool g1, .string n1, .string d1]] W fun e w' => e = .returned (.bool true) ∧ Below W.heap.size W w')
    (v2 : ∀ W, Calls Tryz.prog 49 #[.agg #[.bool g2, .string n2, .string d2]] W fun e w' => e = .returned (.bool true) ∧ Below W.heap.size W w') :
    Calls Tryz.prog 35 #[.agg #[.bool g1, .string n1, .string d1], .agg #[.bool g2, .string n2, .string d2]] w fun e w' => e = .returned (.tuple #[.agg #[.bool false, .string ⟨#[]⟩, .string ⟨#[]⟩], .int .i64 15]) ∧ Below w.heap.size w w' := by
  have q0 := Lib.hid (TwoBoxes.new w g1 g2 n1 d1 n2 d2)
  have hB0 := Lib.hid (twoW_below w g1 g2 n1 d1 n2 d2)
  replace v1 := Lib.hid v1
  replace v2 := Lib.hid v2
  go_enter Tryz.func35, Tryz.ntmps35
  go_wp2_with fail
  refine (v1.out _).mono ?_
  rintro e w1 ⟨rfl, hb⟩
  have q1 := q0.out.below hb
  have hB1 := Lib.hid (hB0.out.trans (hb.mono hB0.out.size))
  clear hb
  obtain ⟨a1, a2, a3, a4, a5, a6⟩ := q1.1.facts
  obtain ⟨b1, b2, b3, b4, b5, b6⟩ := q1.2.1.facts
  obtain ⟨c1, c2, c3, c4, c5, c6⟩ := q1.2.2.facts
  have c7 := q1.2.2.lt
  replace q1 := Lib.hid q1
  go_wp2_with fail
  refine (v2.out _).mono ?_
  rintro e w2 ⟨rfl, hb⟩
  have q2 := q1.out.below hb
  have hB2 := Lib.hid (hB1.out.trans (hb.mono hB1.out.size))
  clear a1 a2 a3 a4 a5 a6 b1 b2 b3 b4 b5 b6 c1 c2 c3 c4 c5 c6 c7
  clear hb
  obtain ⟨a1, a2, a3, a4, a5, a6⟩ := q2.1.facts
  obtain ⟨b1, b2, b3, b4, b5, b6⟩ := q2.2.1.facts
  obtain ⟨c1, c2, c3, c4, c5, c6⟩ := q2.2.2.facts
  have c7 := q2.2.2.lt
  replace q2 := Lib.hid q2
  go_wp2
  refine bodyPost_ret (v := .tuple #[.agg #[.bool false, .string ⟨#[]⟩, .string ⟨#[]⟩], .int .i64 15]) (by simp [results, Tryz.results35, go_sem, c1, c2, c3]) rfl ⟨rfl, ?_⟩
  repeat refine Below.setCell ?_ (by simp only []; omega) _
  exact hB2.out

set_option maxRecDepth 100000 in
set_option maxHeartbeats 2000000 in
theorem RRDiv_go (g1 g2 : Bool) (n1 d1 n2 d2 : ByteArray) (r : Bool) (n d : ByteArray) (E : Int) (h0 : (n2.toList == [48]) = false) (w : World)
    (v1 : ∀ W, Calls Tryz.prog 49 #[.agg #[.bool g1, .string n1, .string d1]] W fun e w' => e = .returned (.bool true) ∧ Below W.heap.size W w')
    (v2 : ∀ W, Calls Tryz.prog 49 #[.agg #[.bool g2, .string n2, .string d2]] W fun e w' => e = .returned (.bool true) ∧ Below W.heap.size W w')
    (km : ∀ W, Calls Tryz.prog 36 #[.agg #[.bool g1, .string n1, .string d1], .agg #[.bool g2, .string d2, .string n2]] W fun e w' => e = .returned (.tuple #[.agg #[.bool r, .string n, .string d], .int .i64 E]) ∧ Below W.heap.size W w') :
    Calls Tryz.prog 35 #[.agg #[.bool g1, .string n1, .string d1], .agg #[.bool g2, .string n2, .string d2]] w fun e w' => e = .returned (.tuple #[.agg #[.bool r, .string n, .string d], .int .i64 E]) ∧ Below w.heap.size w w' := by
  have q0 := Lib.hid (TwoBoxes.new w g1 g2 n1 d1 n2 d2)
  have hB0 := Lib.hid (twoW_below w g1 g2 n1 d1 n2 d2)
  replace v1 := Lib.hid v1
  replace v2 := Lib.hid v2
  replace km := Lib.hid km
  go_enter Tryz.func35, Tryz.ntmps35
  go_wp2_with fail
  refine (v1.out _).mono ?_
  rintro e w1 ⟨rfl, hb⟩
  have q1 := q0.out.below hb
  have hB1 := Lib.hid (hB0.out.trans (hb.mono hB0.out.size))
  clear hb
  obtain ⟨a1, a2, a3, a4, a5, a6⟩ := q1.1.facts
  obtain ⟨b1, b2, b3, b4, b5, b6⟩ := q1.2.1.facts
  obtain ⟨c1, c2, c3, c4, c5, c6⟩ := q1.2.2.facts
  have c7 := q1.2.2.lt
  replace q1 := Lib.hid q1
  go_wp2_with fail
  refine (v2.out _).mono ?_
  rintro e w2 ⟨rfl, hb⟩
  have q2 := q1.out.below hb
  have hB2 := Lib.hid (hB1.out.trans (hb.mono hB1.out.size))
  clear a1 a2 a3 a4 a5 a6 b1 b2 b3 b4 b5 b6 c1 c2 c3 c4 c5 c6 c7
  clear hb
  obtain ⟨a1, a2, a3, a4, a5, a6⟩ := q2.1.facts
  obtain ⟨b1, b2, b3, b4, b5, b6⟩ := q2.2.1.facts
  obtain ⟨c1, c2, c3, c4, c5, c6⟩ := q2.2.2.facts
  have c7 := q2.2.2.lt
  replace q2 := Lib.hid q2
  go_wp2_with fail
  refine (km.out _).mono ?_
  rintro e w3 ⟨rfl, hb⟩
  have q3 := q2.out.below hb
  have hB3 := Lib.hid (hB2.out.trans (hb.mono hB2.out.size))
  clear a1 a2 a3 a4 a5 a6 b1 b2 b3 b4 b5 b6 c1 c2 c3 c4 c5 c6 c7
  clear hb
  obtain ⟨a1, a2, a3, a4, a5, a6⟩ := q3.1.facts
  obtain ⟨b1, b2, b3, b4, b5, b6⟩ := q3.2.1.facts
  obtain ⟨c1, c2, c3, c4, c5, c6⟩ := q3.2.2.facts
  have c7 := q3.2.2.lt
  replace q3 := Lib.hid q3
  go_wp2
  refine bodyPost_ret (v := .tuple #[.agg #[.bool r, .string n, .string d], .int .i64 E]) (by simp [results, Tryz.results35, go_sem, c1, c2, c3]) rfl ⟨rfl, ?_⟩
  repeat refine Below.setCell ?_ (by simp only []; omega) _
  exact hB3.out

set_option maxRecDepth 100000 in
set_option maxHeartbeats 2000000 in
theorem RRSub_go (g1 g2 : Bool) (n1 d1 n2 d2 : ByteArray) (g3 r : Bool) (n d : ByteArray) (E : Int) (w : World)
    (v1 : ∀ W, Calls Tryz.prog 49 #[.agg #[.bool g1, .string n1, .string d1]] W fun e w' => e = .returned (.bool true) ∧ Below W.heap.size W w')
    (v2 : ∀ W, Calls Tryz.prog 49 #[.agg #[.bool g2, .string n2, .string d2]] W fun e w' => e = .returned (.bool true) ∧ Below W.heap.size W w')
    (ho : ∀ W, Calls Tryz.prog 54 #[.agg #[.bool g2, .string n2, .string d2]] W fun e w' => e = .returned (.agg #[.bool g3, .string n2, .string d2]) ∧ Below W.heap.size W w')
    (hc : ∀ W, Calls Tryz.prog 53 #[.agg #[.bool g1, .string n1, .string d1], .agg #[.bool g3, .string n2, .string d2]] W fun e w' => e = .returned (.tuple #[.agg #[.bool r, .string n, .string d], .int .i64 E]) ∧ Below W.heap.size W w') :
    Calls Tryz.prog 37 #[.agg #[.bool g1, .string n1, .string d1], .agg #[.bool g2, .string n2, .string d2]] w fun e w' => e = .returned (.tuple #[.agg #[.bool r, .string n, .string d], .int .i64 E]) ∧ Below w.heap.size w w' := by
  have q0 := Lib.hid (TwoBoxes.new w g1 g2 n1 d1 n2 d2)
  have hB0 := Lib.hid (twoW_below w g1 g2 n1 d1 n2 d2)
  replace v1 := Lib.hid v1
  replace v2 := Lib.hid v2
  replace ho := Lib.hid ho
  replace hc := Lib.hid hc
  go_enter Tryz.func37, Tryz.ntmps37
  go_wp2_with fail
  refine (v1.out _).mono ?_
  rintro e w1 ⟨rfl, hb⟩
  have q1 := q0.out.below hb
  have hB1 := Lib.hid (hB0.out.trans (hb.mono hB0.out.size))
  clear hb
  obtain ⟨a1, a2, a3, a4, a5, a6⟩ := q1.1.facts
  obtain ⟨b1, b2, b3, b4, b5, b6⟩ := q1.2.1.facts
  obtain ⟨c1, c2, c3, c4, c5, c6⟩ := q1.2.2.facts
  have c7 := q1.2.2.lt
  replace q1 := Lib.hid q1
  go_wp2_with fail
  refine (v2.out _).mono ?_
  rintro e w2 ⟨rfl, hb⟩
  have q2 := q1.out.below hb
  have hB2 := Lib.hid (hB1.out.trans (hb.mono hB1.out.size))
  clear a1 a2 a3 a4 a5 a6 b1 b2 b3 b4 b5 b6 c1 c2 c3 c4 c5 c6 c7
  clear hb
  obtain ⟨a1, a2, a3, a4, a5, a6⟩ := q2.1.facts
  obtain ⟨b1, b2, b3, b4, b5, b6⟩ := q2.2.1.facts
  obtain ⟨c1, c2, c3, c4, c5, c6⟩ := q2.2.2.facts
  have c7 := q2.2.2.lt
  replace q2 := Lib.hid q2
  clear a1 a2 a3 a4 a5 a6 b1 b2 b3 b4 b5 b6 c1 c2 c3 c4 c5 c6 c7
  go_wp2_with fail
  have q2d : Hid (TwoBoxes w2.drew w.heap.size g1 g2 n1 d1 n2 d2) := q2.out
  have hB2d : Hid (Below w.heap.size w w2.drew) := hB2.out.drew
  obtain ⟨a1, a2, a3, b1, b2, b3⟩ := q2.out.six
  go_region_held3 (fun w' => w'.cell? ⟨w.heap.size, 0, none⟩ = some (.bool g1) ∧ w'.cell? ⟨w.heap.size, 1, none⟩ = some (.string n1) ∧ w'.cell? ⟨w.heap.size, 2, none⟩ = some (.string d1) ∧ w'.cell? ⟨w.heap.size + 1, 0, none⟩ = some (.bool g2) ∧ w'.cell? ⟨w.heap.size + 1, 1, none⟩ = some (.string n2) ∧ w'.cell? ⟨w.heap.size + 1, 2, none⟩ = some (.string d2)) (first | (with_reducible exact q2.out.six) | (with_reducible exact q2d.out.six) | (with_reducible exact q3.out.six) | (with_reducible exact q4.out.six) | (with_reducible exact q4.out.six_set _ _ _) | go_keep)
    (first
      | (go_at_call 54; refine (ho.out _).mono ?_; rintro e w3 ⟨rfl, hb3⟩; have q3 := Lib.hid (q2d.out.below hb3); have hB3 := Lib.hid (hB2d.out.trans (hb3.mono hB2d.out.size)); clear hb3)
      | (go_at_call 53; refine (hc.out _).mono ?_; rintro e w4 ⟨rfl, hb4⟩; have q4 := Lib.hid (q3.out.below hb4); obtain ⟨c1, c2, c3, c4, c5, c6⟩ := q4.out.2.2.facts; have hB4 := Lib.hid (hB3.out.trans (hb4.mono hB3.out.size)); clear hb4))
  go_wp2
  refine bodyPost_ret (v := .tuple #[.agg #[.bool r, .string n, .string d], .int .i64 E]) (by simp [results, Tryz.results37, go_sem, c1, c2, c3]) rfl ⟨rfl, ?_⟩
  repeat refine Below.setCell ?_ (by simp only []; omega) _
  exact hB4.out

theorem inv_qv {q : Rat} (h : q ≠ 0) : qv q⁻¹ = .agg #[.bool (decide (q.num < 0)), .string (T (some q.den)), .string (T (some q.num.natAbs))] := by
  have hn := num_ne_zero h
  unfold qv
  rw [Rat.num_inv, Rat.den_inv, if_neg hn]
  have hd : 0 < q.den := q.den_pos
  have e1 : decide (q.num.sign * (q.den : Int) < 0) = decide (q.num < 0) := by
    refine decide_eq_decide.2 ?_
    rcases Int.lt_or_gt_of_ne hn with h1 | h1
    · rw [Int.sign_eq_neg_one_of_neg h1]
      omega
    · rw [Int.sign_eq_one_of_pos h1]
      omega
  have e2 : (q.num.sign * (q.den : Int)).natAbs = q.den := by
    rw [Int.natAbs_mul, Int.natAbs_sign_of_ne_zero hn, Nat.one_mul, Int.natAbs_natCast]
  rw [e1, e2]
theorem inv_size {q : Rat} (h : q ≠ 0) : q⁻¹.num.natAbs = q.den ∧ q⁻¹.den = q.num.natAbs := by
  have hn := num_ne_zero h
  rw [Rat.num_inv, Rat.den_inv, if_neg hn]
  exact ⟨by rw [Int.natAbs_mul, Int.natAbs_sign_of_ne_zero hn, Nat.one_mul, Int.natAbs_natCast], rfl⟩

theorem vqv (q : Rat) (h : OkQ q) (W : World) : Calls Tryz.prog 49 #[.agg #[.bool (decide (q.num < 0)), .string (T (some q.num.natAbs)), .string (T (some q.den))]] W fun e w' => e = .returned (.bool true) ∧ Below W.heap.size W w' := by
  have hv := valid_qv h
  have hz := size_of_valid hv
  have := RRValid_any (decide (q.num < 0)) (T (some q.num.natAbs)) (T (some q.den)) W (by omega) (by omega)
  rwa [hv] at this
theorem lq (q : Rat) (h : ShortQ q) (W : World) : Calls Tryz.prog 50 #[.agg #[.bool (decide (q.num < 0)), .string (T (some q.num.natAbs)), .string (T (some q.den))]] W fun e w' => e = .returned (.bool false) ∧ Below W.heap.size W w' :=
  RRlong_no _ _ _ W (short_sizes h).1 (short_sizes h).2
theorem lqn (q : Rat) (h : ¬ ShortQ q) (W : World) : Calls Tryz.prog 50 #[.agg #[.bool (decide (q.num < 0)), .string (T (some q.num.natAbs)), .string (T (some q.den))]] W fun e w' => e = .returned (.bool true) ∧ Below W.heap.size W w' :=
  RRlong_yes _ _ _ W (by
    rcases Nat.lt_or_ge 140 (T (some q.num.natAbs)).size with h1 | h1
    · exact .inl h1
    · rcases Nat.lt_or_ge 140 (T (some q.den)).size with h2 | h2
      · exact .inr h2
      · exact absurd (short_of_sizes h1 h2) h)
theorem RRAdd_bad (g1 g2 : Bool) (n1 d1 n2 d2 : ByteArray) (w : World) (s1 : n1.size ≤ 140737488355328) (s2 : d1.size ≤ 140737488355328) (s3 : n2.size ≤ 140737488355328) (s4 : d2.size ≤ 140737488355328) (hb : validB g1 n1 d1 = false ∨ validB g2 n2 d2 = false) :
    Calls Tryz.prog 53 #[.agg #[.bool g1, .string n1, .string d1], .agg #[.bool g2, .string n2, .string d2]] w fun e w' => e = .returned (.tuple #[zv, .int .i64 1]) ∧ Below w.heap.size w w' := by
  have v1 := fun W => RRValid_any g1 n1 d1 W s1 s2
  have v2 := fun W => RRValid_any g2 n2 d2 W s3 s4
  cases h1 : validB g1 n1 d1 with
  | false =>
    rw [h1] at v1
    exact RRAdd_bad1 g1 g2 n1 d1 n2 d2 w v1
  | true =>
    have h2 : validB g2 n2 d2 = false := by rcases hb with h | h; (· rw [h1] at h; cases h); (· exact h)
    rw [h1] at v1
    rw [h2] at v2
    exact RRAdd_bad2 g1 g2 n1 d1 n2 d2 w v1 v2

theorem RRSub_bad (g1 g2 : Bool) (n1 d1 n2 d2 : ByteArray) (w : World) (s1 : n1.size ≤ 140737488355328) (s2 : d1.size ≤ 140737488355328) (s3 : n2.size ≤ 140737488355328) (s4 : d2.size ≤ 140737488355328) (hb : validB g1 n1 d1 = false ∨ validB g2 n2 d2 = false) :
    Calls Tryz.prog 37 #[.agg #[.bool g1, .string n1, .string d1], .agg #[.bool g2, .string n2, .string d2]] w fun e w' => e = .returned (.tuple #[zv, .int .i64 1]) ∧ Below w.heap.size w w' := by
  have v1 := fun W => RRValid_any g1 n1 d1 W s1 s2
  have v2 := fun W => RRValid_any g2 n2 d2 W s3 s4
  cases h1 : validB g1 n1 d1 with
  | false =>
    rw [h1] at v1
    exact RRSub_bad1 g1 g2 n1 d1 n2 d2 w v1
  | true =>
    have h2 : validB g2 n2 d2 = false := by rcases hb with h | h; (· rw [h1] at h; cases h); (· exact h)
    rw [h1] at v1
    rw [h2] at v2
    exact RRSub_bad2 g1 g2 n1 d1 n2 d2 w v1 v2

theorem RRMul_bad (g1 g2 : Bool) (n1 d1 n2 d2 : ByteArray) (w : World) (s1 : n1.size ≤ 140737488355328) (s2 : d1.size ≤ 140737488355328) (s3 : n2.size ≤ 140737488355328) (s4 : d2.size ≤ 140737488355328) (hb : validB g1 n1 d1 = false ∨ validB g2 n2 d2 = false) :
    Calls Tryz.prog 36 #[.agg #[.bool g1, .string n1, .string d1], .agg #[.bool g2, .string n2, .string d2]] w fun e w' => e = .returned (.tuple #[zv, .int .i64 1]) ∧ Below w.heap.size w w' := by
  have v1 := fun W => RRValid_any g1 n1 d1 W s1 s2
  have v2 := fun W => RRValid_any g2 n2 d2 W s3 s4
  cases h1 : validB g1 n1 d1 with
  | false =>
    rw [h1] at v1
    exact RRMul_bad1 g1 g2 n1 d1 n2 d2 w v1
  | true =>
    have h2 : validB g2 n2 d2 = false := by rcases hb with h | h; (· rw [h1] at h; cases h); (· exact h)
    rw [h1] at v1
    rw [h2] at v2
    exact RRMul_bad2 g1 g2 n1 d1 n2 d2 w v1 v2

theorem RRDiv_bad (g1 g2 : Bool) (n1 d1 n2 d2 : ByteArray) (w : World) (s1 : n1.size ≤ 140737488355328) (s2 : d1.size ≤ 140737488355328) (s3 : n2.size ≤ 140737488355328) (s4 : d2.size ≤ 140737488355328) (hb : validB g1 n1 d1 = false ∨ validB g2 n2 d2 = false) :
    Calls Tryz.prog 35 #[.agg #[.bool g1, .string n1, .string d1], .agg #[.bool g2, .string n2, .string d2]] w fun e w' => e = .returned (.tuple #[zv, .int .i64 1]) ∧ Below w.heap.size w w' := by
  have v1 := fun W => RRValid_any g1 n1 d1 W s1 s2
  have v2 := fun W => RRValid_any g2 n2 d2 W s3 s4
  cases h1 : validB g1 n1 d1 with
  | false =>
    rw [h1] at v1
    exact RRDiv_bad1 g1 g2 n1 d1 n2 d2 w v1
  | true =>
    have h2 : validB g2 n2 d2 = false := by rcases hb with h | h; (· rw [h1] at h; cases h); (· exact h)
    rw [h1] at v1
    rw [h2] at v2
    exact RRDiv_bad2 g1 g2 n1 d1 n2 d2 w v1 v2

theorem RRAdd_long (p q : Rat) (hp : OkQ p) (hq : OkQ q) (hl : ¬ (ShortQ p ∧ ShortQ q)) (w : World) :
    Calls Tryz.prog 53 #[qv p, qv q] w fun e w' => e = .returned (.tuple #[zv, .int .i64 2]) ∧ Below w.heap.size w w' := by
  by_cases h1 : ShortQ p
  · exact RRAdd_long2 _ _ _ _ _ _ w (vqv p hp) (vqv q hq) (lq p h1) (lqn q fun h => hl ⟨h1, h⟩)
  · exact RRAdd_long1 _ _ _ _ _ _ w (vqv p hp) (vqv q hq) (lqn p h1)

theorem RRMul_long (p q : Rat) (hp : OkQ p) (hq : OkQ q) (hl : ¬ (ShortQ p ∧ ShortQ q)) (w : World) :
    Calls Tryz.prog 36 #[qv p, qv q] w fun e w' => e = .returned (.tuple #[zv, .int .i64 2]) ∧ Below w.heap.size w w' := by
  by_cases h1 : ShortQ p
  · exact RRMul_long2 _ _ _ _ _ _ w (vqv p hp) (vqv q hq) (lq p h1) (lqn q fun h => hl ⟨h1, h⟩)
  · exact RRMul_long1 _ _ _ _ _ _ w (vqv p hp) (vqv q hq) (lqn p h1)

theorem RRAdd_short (p q : Rat) (hp : ShortQ p) (hq : ShortQ q) (w : World) :
    Calls Tryz.prog 53 #[qv p, qv q] w fun e w' => e = .returned (.tuple #[qv (p + q), .int .i64 0]) ∧ Below w.heap.size w w' := by
  have h1 := L1_mul hp.1 hq.2
  have h2 := L1_mul hq.1 hp.2
  have h3 := L1_mul hp.2 hq.2
  have h4 := L1_sq
  have hbd : p.den * q.den ≠ 0 := Nat.mul_ne_zero p.den_nz q.den_nz
  have mx := fun W => rmul p.num.natAbs q.den W (L1_lim hp.1) (L1_lim hq.2) (by omega)
  have my := fun W => rmul q.num.natAbs p.den W (L1_lim hq.1) (L1_lim hp.2) (by omega)
  have mz := fun W => rmul p.den q.den W (L1_lim hp.2) (L1_lim hq.2) (by omega)
  by_cases hg : decide (p.num < 0) = decide (q.num < 0)
  · have ks := fun W => radd (p.num.natAbs * q.den) (q.num.natAbs * p.den) W (by omega) (by omega) (by omega)
    have kr := fun W => RRreduce_any (decide (p.num < 0)) (p.num.natAbs * q.den + q.num.natAbs * p.den) (p.den * q.den) W (by omega) (by omega) hbd
    rw [sum_same rfl hg rfl rfl, add_mk] at kr
    have v2 := vqv q hq.ok
    have l2 := lq q hq
    have e : qv q = .agg #[.bool (decide (p.num < 0)), .string (T (some q.num.natAbs)), .string (T (some q.den))] := by rw [hg]; rfl
    rw [← hg] at v2 l2
    rw [e]
    exact RRAdd_same _ _ _ _ _ _ _ _ _ _ _ _ _ w (vqv p hp.ok) v2 (lq p hp) l2 mx my mz ks kr
  · have hne : (decide (p.num < 0) == decide (q.num < 0)) = false := by rw [beq_eq_false_iff_ne]; exact hg
    have kc := fun W => rcmp (p.num.natAbs * q.den) (q.num.natAbs * p.den) W (by omega) (by omega)
    rcases Nat.lt_or_ge (p.num.natAbs * q.den) (q.num.natAbs * p.den) with hl | hl
    · have ks := fun W => rsub (q.num.natAbs * p.den) (p.num.natAbs * q.den) W (by omega) (by omega) (by omega)
      have kr := fun W => RRreduce_any (decide (q.num < 0)) (q.num.natAbs * p.den - p.num.natAbs * q.den) (p.den * q.den) W (by omega) (by omega) hbd
      rw [sum_less rfl rfl rfl rfl hg hl, add_mk] at kr
      exact RRAdd_less _ _ _ _ _ _ _ _ _ _ _ _ _ _ _ (by rw [cmpN_lt hl]; omega) hne w (vqv p hp.ok) (vqv q hq.ok) (lq p hp) (lq q hq) mx my mz kc ks kr
    · have ks := fun W => rsub (p.num.natAbs * q.den) (q.num.natAbs * p.den) W (by omega) (by omega) hl
      have kr := fun W => RRreduce_any (decide (p.num < 0)) (p.num.natAbs * q.den - q.num.natAbs * p.den) (p.den * q.den) W (by omega) (by omega) hbd
      rw [sum_more rfl rfl rfl rfl hg hl, add_mk] at kr
      obtain ⟨c, hc, hc0, _⟩ := cmpN_ge hl
      exact RRAdd_more _ _ _ _ _ _ _ _ _ _ _ _ _ _ _ (by rw [← hc]; exact hc0) hne w (vqv p hp.ok) (vqv q hq.ok) (lq p hp) (lq q hq) mx my mz kc ks kr

theorem RRMul_short (p q : Rat) (hp : ShortQ p) (hq : ShortQ q) (w : World) :
    Calls Tryz.prog 36 #[qv p, qv q] w fun e w' => e = .returned (.tuple #[qv (p * q), .int .i64 0]) ∧ Below w.heap.size w w' := by
  have h1 := L1_mul hp.1 hq.1
  have h3 := L1_mul hp.2 hq.2
  have h4 := L1_sq
  have hbd : p.den * q.den ≠ 0 := Nat.mul_ne_zero p.den_nz q.den_nz
  have mx := fun W => rmul p.num.natAbs q.num.natAbs W (L1_lim hp.1) (L1_lim hq.1) (by omega)
  have mz := fun W => rmul p.den q.den W (L1_lim hp.2) (L1_lim hq.2) (by omega)
  have kr := fun W => RRreduce_any (!(decide (p.num < 0) == decide (q.num < 0))) (p.num.natAbs * q.num.natAbs) (p.den * q.den) W (by omega) (by omega) hbd
  have e := mul_mk p q
  rw [show (decide (p.num < 0) != decide (q.num < 0)) = !(decide (p.num < 0) == decide (q.num < 0)) from rfl] at e
  rw [e] at kr
  exact RRMul_go _ _ _ _ _ _ _ _ _ _ _ _ w (vqv p hp.ok) (vqv q hq.ok) (lq p hp) (lq q hq) mx mz kr

theorem neg_agg (q : Rat) : qv (-q) = .agg #[.bool (decide ((-q).num < 0)), .string (T (some q.num.natAbs)), .string (T (some q.den))] := by
  unfold qv
  rw [show (-q).num.natAbs = q.num.natAbs from Int.natAbs_neg _]
  rfl
theorem RRSub_short (p q : Rat) (hp : ShortQ p) (hq : ShortQ q) (w : World) :
    Calls Tryz.prog 37 #[qv p, qv q] w fun e w' => e = .returned (.tuple #[qv (p - q), .int .i64 0]) ∧ Below w.heap.size w w' := by
  have hc := fun W => RRAdd_short p (-q) hp hq.neg W
  rw [← Rat.sub_eq_add_neg] at hc
  have ho := fun W => RRNeg_q q W
  rw [neg_agg] at hc ho
  exact RRSub_go _ _ _ _ _ _ _ _ _ _ _ w (vqv p hp.ok) (vqv q hq.ok) ho hc
theorem OkQ.neg {q : Rat} (h : OkQ q) : OkQ (-q) := ⟨by show (-q.num).natAbs < Lim; rw [Int.natAbs_neg]; exact h.1, h.2⟩
theorem RRSub_long (p q : Rat) (hp : OkQ p) (hq : OkQ q) (hl : ¬ (ShortQ p ∧ ShortQ q)) (w : World) :
    Calls Tryz.prog 37 #[qv p, qv q] w fun e w' => e = .returned (.tuple #[zv, .int .i64 2]) ∧ Below w.heap.size w w' := by
  have hc := fun W => RRAdd_long p (-q) hp hq.neg (fun h => hl ⟨h.1, by have := h.2.neg; rwa [Rat.neg_neg] at this⟩) W
  have ho := fun W => RRNeg_q q W
  rw [neg_agg] at hc ho
  exact RRSub_go _ _ _ _ _ _ _ _ _ _ _ w (vqv p hp) (vqv q hq) ho hc

theorem RRDiv_zeroq (p : Rat) (hp : OkQ p) (w : World) :
    Calls Tryz.prog 35 #[qv p, qv 0] w fun e w' => e = .returned (.tuple #[zv, .int .i64 15]) ∧ Below w.heap.size w w' :=
  RRDiv_zero _ _ _ _ _ _ (T_is_zero 0) w (vqv p hp) (vqv 0 ⟨by have := one_lt_Lim; show 0 < Lim; omega, one_lt_Lim⟩)
theorem RRDiv_short (p q : Rat) (hp : ShortQ p) (hq : ShortQ q) (h0 : q ≠ 0) (w : World) :
    Calls Tryz.prog 35 #[qv p, qv q] w fun e w' => e = .returned (.tuple #[qv (p / q), .int .i64 0]) ∧ Below w.heap.size w w' := by
  have hi := inv_size h0
  have hz := T_is_zero q.num.natAbs
  rw [decide_eq_false (by have := num_ne_zero h0; omega)] at hz
  have km := fun W => RRMul_short p q⁻¹ hp ⟨by rw [hi.1]; exact hq.2, by rw [hi.2]; exact hq.1⟩ W
  rw [inv_qv h0, ← Rat.div_def] at km
  exact RRDiv_go _ _ _ _ _ _ _ _ _ _ hz w (vqv p hp.ok) (vqv q hq.ok) km
theorem RRDiv_long (p q : Rat) (hp : OkQ p) (hq : OkQ q) (h0 : q ≠ 0) (hl : ¬ (ShortQ p ∧ ShortQ q)) (w : World) :
    Calls Tryz.prog 35 #[qv p, qv q] w fun e w' => e = .returned (.tuple #[zv, .int .i64 2]) ∧ Below w.heap.size w w' := by
  have hi := inv_size h0
  have hz := T_is_zero q.num.natAbs
  rw [decide_eq_false (by have := num_ne_zero h0; omega)] at hz
  have km := fun W => RRMul_long p q⁻¹ hp ⟨by rw [hi.1]; exact hq.2, by rw [hi.2]; exact hq.1⟩ (fun h => hl ⟨h.1, by have := h.2.2; rw [hi.2] at this; exact this, by have := h.2.1; rw [hi.1] at this; exact this⟩) W
  rw [inv_qv h0] at km
  exact RRDiv_go _ _ _ _ _ _ _ _ _ _ hz w (vqv p hp) (vqv q hq) km

end Nt
end Go.Proofs.YtjjlnahipiinfaaGreatDoor

namespace Go.Proofs.YtjjlnahipiinfaaGreatDoor
open Go.RowKit Go.Shelf
namespace Nt

end Nt
end Go.Proofs.YtjjlnahipiinfaaGreatDoor

namespace Go.Proofs.YtjjlnahipiinfaaGreatDoor
open Go.RowKit Go.Shelf
namespace Nt

/-- What Parse gives for a text. -/
def pres (t : ByteArray) : Value := .tuple #[if pok t then .agg #[.bool (pneg t), .string (pnum t), .string (pden t)] else zv, .int .i64 (if pok t then 0 else 5)]
/-- No stroke among the first bytes. -/
def NoStroke (s : ByteArray) (k : Nat) : Prop := ∀ j (h : j < s.size), j < k → s[j].toNat ≠ 47
theorem NoStroke.zero (s : ByteArray) : NoStroke s 0 := fun j _ h => absurd h (by omega)
theorem NoStroke.step {s : ByteArray} {k : Nat} (h : NoStroke s k) (hk : k < s.size) (hb : s[k].toNat ≠ 47) : NoStroke s (k + 1) := fun j hj h1 => by
  by_cases e : j = k
  · subst e; exact hb
  · exact h j hj (by omega)
theorem byte_list (s : ByteArray) (k : Nat) (h : k < s.size) : s.data.toList[k]? = some s[k] := Lib.data_getElem? s k h
theorem cut_found {s : ByteArray} {k : Nat} (hk : k < s.size) (hb : s[k].toNat = 47) (hn : NoStroke s k) :
    Lib.cut s.data.toList [47] = ((s.extract 0 k).data.toList, (s.extract (k + 1) s.size).data.toList, true) := by
  have hz : s.size = s.data.toList.length := Lib.size_eq _
  have e1 : (s.extract 0 k).data.toList = s.data.toList.take k := by rw [Lib.extract_data]; simp
  have e2 : (s.extract (k + 1) s.size).data.toList = s.data.toList.drop (k + 1) := Lib.extract_to_end _ _
  have e3 : s.data.toList = s.data.toList.take k ++ 47 :: s.data.toList.drop (k + 1) := by
    conv => lhs; rw [← List.take_append_drop k s.data.toList]
    have hl : k < s.data.toList.length := by omega
    have h1 : s.data.toList[k] = 47 := by
      have := byte_list s k hk
      rw [List.getElem?_eq_getElem hl] at this
      have h2 := Option.some.inj this
      rw [h2]
      exact UInt8.toNat_inj.1 hb
    rw [List.drop_eq_getElem_cons hl, h1]
  rw [e1, e2]
  conv => lhs; rw [e3]
  refine cut_at _ _ ?_
  intro x hx e
  obtain ⟨j, hj, rfl⟩ := List.getElem_of_mem hx
  rw [List.length_take] at hj
  rw [List.getElem_take] at e
  have h2 := byte_list s j (by omega)
  rw [List.getElem?_eq_getElem (by omega)] at h2
  have h3 := Option.some.inj h2
  rw [h3] at e
  exact hn j (by omega) (by omega) (by rw [e]; rfl)
theorem cut_none {s : ByteArray} (hn : NoStroke s s.size) : Lib.cut s.data.toList [47] = (s.data.toList, [], false) := by
  refine cut_no _ ?_
  intro x hx e
  obtain ⟨j, hj, rfl⟩ := List.getElem_of_mem hx
  have hz : s.size = s.data.toList.length := Lib.size_eq _
  have h2 := byte_list s j (by omega)
  rw [List.getElem?_eq_getElem hj] at h2
  have h3 := Option.some.inj h2
  rw [h3] at e
  exact hn j (by omega) (by omega) (by rw [e]; rfl)
theorem mk_list (s : ByteArray) : (⟨s.data.toList.toArray⟩ : ByteArray) = s := by
  apply ba_ext
  simp

theorem pres_found {t s : ByteArray} {k : Nat} (hs : s.data.toList = pdig t) (hk : k < s.size) (hb : s[k].toNat = 47) (hn : NoStroke s k) :
    pres t = if ((s.extract (k + 1) s.size).toList == [49]) = true then .tuple #[zv, .int .i64 5] else
      if validB (pneg t) (s.extract 0 k) (s.extract (k + 1) s.size) = true then .tuple #[.agg #[.bool (pneg t), .string (s.extract 0 k), .string (s.extract (k + 1) s.size)], .int .i64 0] else .tuple #[zv, .int .i64 5] := by
  have hc := cut_found hk hb hn
  rw [hs] at hc
  have e1 : pnum t = s.extract 0 k := by unfold pnum; rw [hc, mk_list]
  have e2 : pis t = true := by unfold pis; rw [hc]
  have e3 : pden0 t = s.extract (k + 1) s.size := by unfold pden0; rw [hc, mk_list]
  have e4 : pden t = s.extract (k + 1) s.size := by unfold pden; rw [e2, e3]; rfl
  unfold pres pok
  rw [e1, e2, e3, e4]
  generalize s.extract (k + 1) s.size = d
  cases d.toList == [49] <;> cases validB (pneg t) (s.extract 0 k) d <;> simp
theorem pres_none {t s : ByteArray} (hs : s.data.toList = pdig t) (hn : NoStroke s s.size) :
    pres t = if validB (pneg t) s ⟨#[49]⟩ = true then .tuple #[.agg #[.bool (pneg t), .string s, .string ⟨#[49]⟩], .int .i64 0] else .tuple #[zv, .int .i64 5] := by
  have hc := cut_none hn
  rw [hs] at hc
  have e1 : pnum t = s := by unfold pnum; rw [hc, ← hs, mk_list]
  have e2 : pis t = false := by unfold pis; rw [hc]
  have e4 : pden t = ⟨#[49]⟩ := by unfold pden; rw [e2]; rfl
  unfold pres pok
  rw [e1, e2, e4]
  cases validB (pneg t) s ⟨#[49]⟩ <;> simp
theorem pneg_iff (t : ByteArray) : pneg t = (decide (0 < t.size) && (t.data.toList[0]? == some 45)) := by
  unfold pneg Lib.hasPrefix
  rw [Lib.size_eq]
  cases t.data.toList with
  | nil => rfl
  | cons c l => simp [List.isPrefixOf]; rw [Bool.beq_comm]
theorem pdig_neg {t : ByteArray} (h : pneg t = true) : (t.extract 1 t.size).data.toList = pdig t := by
  unfold pneg at h
  unfold pdig Lib.trimPrefix
  rw [if_pos h]
  exact Lib.extract_to_end _ _
theorem pdig_pos {t : ByteArray} (h : pneg t = false) : t.data.toList = pdig t := by
  unfold pneg at h
  unfold pdig Lib.trimPrefix
  rw [if_neg (by rw [h]; simp)]

end Nt
end Go.Proofs.YtjjlnahipiinfaaGreatDoor

namespace Go.Proofs.YtjjlnahipiinfaaGreatDoor
open Go.RowKit Go.Shelf
namespace Nt

theorem both_add (g1 g2 : Bool) (n1 d1 n2 d2 : ByteArray) (s1 : n1.size ≤ 140737488355328) (s2 : d1.size ≤ 140737488355328) (s3 : n2.size ≤ 140737488355328) (s4 : d2.size ≤ 140737488355328) : ∃ (r : Bool) (x y : ByteArray) (E : Int), (∀ W, Env W → Calls Tryz.prog 22 #[.agg #[.bool g1, .string n1, .string d1], .agg #[.bool g2, .string n2, .string d2]] W fun e w' => e = .returned (.tuple #[.agg #[.bool r, .string x, .string y], .int .i64 E]) ∧ Below W.heap.size W w') ∧ (∀ W, Calls Tryz.prog 53 #[.agg #[.bool g1, .string n1, .string d1], .agg #[.bool g2, .string n2, .string d2]] W fun e w' => e = .returned (.tuple #[.agg #[.bool r, .string x, .string y], .int .i64 E]) ∧ Below W.heap.size W w') := by
  by_cases hv : validB g1 n1 d1 = true ∧ validB g2 n2 d2 = true
  · obtain ⟨p, Op, rfl, rfl, rfl⟩ := of_valid hv.1
    obtain ⟨q, Oq, rfl, rfl, rfl⟩ := of_valid hv.2
    by_cases hl : ShortQ p ∧ ShortQ q
    · exact ⟨_, _, _, _, fun W hW => Add_short p q hl.1 hl.2 W hW, fun W => RRAdd_short p q hl.1 hl.2 W⟩
    · exact ⟨_, _, _, _, fun W hW => Add_long p q Op Oq hl W hW, fun W => RRAdd_long p q Op Oq hl W⟩
  · have hb : validB g1 n1 d1 = false ∨ validB g2 n2 d2 = false := by
      cases h1 : validB g1 n1 d1 with
      | false => exact .inl rfl
      | true =>
        cases h2 : validB g2 n2 d2 with
        | false => exact .inr rfl
        | true => exact absurd ⟨h1, h2⟩ hv
    exact ⟨_, _, _, _, fun W hW => Add_bad g1 g2 n1 d1 n2 d2 W hW s1 s2 s3 s4 hb, fun W => RRAdd_bad g1 g2 n1 d1 n2 d2 W s1 s2 s3 s4 hb⟩

theorem both_sub (g1 g2 : Bool) (n1 d1 n2 d2 : ByteArray) (s1 : n1.size ≤ 140737488355328) (s2 : d1.size ≤ 140737488355328) (s3 : n2.size ≤ 140737488355328) (s4 : d2.size ≤ 140737488355328) : ∃ (r : Bool) (x y : ByteArray) (E : Int), (∀ W, Env W → Calls Tryz.prog 33 #[.agg #[.bool g1, .string n1, .string d1], .agg #[.bool g2, .string n2, .string d2]] W fun e w' => e = .returned (.tuple #[.agg #[.bool r, .string x, .string y], .int .i64 E]) ∧ Below W.heap.size W w') ∧ (∀ W, Calls Tryz.prog 37 #[.agg #[.bool g1, .string n1, .string d1], .agg #[.bool g2, .string n2, .string d2]] W fun e w' => e = .returned (.tuple #[.agg #[.bool r, .string x, .string y], .int .i64 E]) ∧ Below W.heap.size W w') := by
  by_cases hv : validB g1 n1 d1 = true ∧ validB g2 n2 d2 = true
  · obtain ⟨p, Op, rfl, rfl, rfl⟩ := of_valid hv.1
    obtain ⟨q, Oq, rfl, rfl, rfl⟩ := of_valid hv.2
    by_cases hl : ShortQ p ∧ ShortQ q
    · exact ⟨_, _, _, _, fun W hW => Sub_short p q hl.1 hl.2 W hW, fun W => RRSub_short p q hl.1 hl.2 W⟩
    · exact ⟨_, _, _, _, fun W hW => Sub_long p q Op Oq hl W hW, fun W => RRSub_long p q Op Oq hl W⟩
  · have hb : validB g1 n1 d1 = false ∨ validB g2 n2 d2 = false := by
      cases h1 : validB g1 n1 d1 with
      | false => exact .inl rfl
      | true =>
        cases h2 : validB g2 n2 d2 with
        | false => exact .inr rfl
        | true => exact absurd ⟨h1, h2⟩ hv
    exact ⟨_, _, _, _, fun W hW => Sub_bad g1 g2 n1 d1 n2 d2 W hW s1 s2 s3 s4 hb, fun W => RRSub_bad g1 g2 n1 d1 n2 d2 W s1 s2 s3 s4 hb⟩

theorem both_mul (g1 g2 : Bool) (n1 d1 n2 d2 : ByteArray) (s1 : n1.size ≤ 140737488355328) (s2 : d1.size ≤ 140737488355328) (s3 : n2.size ≤ 140737488355328) (s4 : d2.size ≤ 140737488355328) : ∃ (r : Bool) (x y : ByteArray) (E : Int), (∀ W, Env W → Calls Tryz.prog 21 #[.agg #[.bool g1, .string n1, .string d1], .agg #[.bool g2, .string n2, .string d2]] W fun e w' => e = .returned (.tuple #[.agg #[.bool r, .string x, .string y], .int .i64 E]) ∧ Below W.heap.size W w') ∧ (∀ W, Calls Tryz.prog 36 #[.agg #[.bool g1, .string n1, .string d1], .agg #[.bool g2, .string n2, .string d2]] W fun e w' => e = .returned (.tuple #[.agg #[.bool r, .string x, .string y], .int .i64 E]) ∧ Below W.heap.size W w') := by
  by_cases hv : validB g1 n1 d1 = true ∧ validB g2 n2 d2 = true
  · obtain ⟨p, Op, rfl, rfl, rfl⟩ := of_valid hv.1
    obtain ⟨q, Oq, rfl, rfl, rfl⟩ := of_valid hv.2
    by_cases hl : ShortQ p ∧ ShortQ q
    · exact ⟨_, _, _, _, fun W hW => Mul_short p q hl.1 hl.2 W hW, fun W => RRMul_short p q hl.1 hl.2 W⟩
    · exact ⟨_, _, _, _, fun W hW => Mul_long p q Op Oq hl W hW, fun W => RRMul_long p q Op Oq hl W⟩
  · have hb : validB g1 n1 d1 = false ∨ validB g2 n2 d2 = false := by
      cases h1 : validB g1 n1 d1 with
      | false => exact .inl rfl
      | true =>
        cases h2 : validB g2 n2 d2 with
        | false => exact .inr rfl
        | true => exact absurd ⟨h1, h2⟩ hv
    exact ⟨_, _, _, _, fun W hW => Mul_bad g1 g2 n1 d1 n2 d2 W hW s1 s2 s3 s4 hb, fun W => RRMul_bad g1 g2 n1 d1 n2 d2 W s1 s2 s3 s4 hb⟩

theorem both_div (g1 g2 : Bool) (n1 d1 n2 d2 : ByteArray) (s1 : n1.size ≤ 140737488355328) (s2 : d1.size ≤ 140737488355328) (s3 : n2.size ≤ 140737488355328) (s4 : d2.size ≤ 140737488355328) : ∃ (r : Bool) (x y : ByteArray) (E : Int), (∀ W, Env W → Calls Tryz.prog 31 #[.agg #[.bool g1, .string n1, .string d1], .agg #[.bool g2, .string n2, .string d2]] W fun e w' => e = .returned (.tuple #[.agg #[.bool r, .string x, .string y], .int .i64 E]) ∧ Below W.heap.size W w') ∧ (∀ W, Calls Tryz.prog 35 #[.agg #[.bool g1, .string n1, .string d1], .agg #[.bool g2, .string n2, .string d2]] W fun e w' => e = .returned (.tuple #[.agg #[.bool r, .string x, .string y], .int .i64 E]) ∧ Below W.heap.size W w') := by
  by_cases hv : validB g1 n1 d1 = true ∧ validB g2 n2 d2 = true
  · obtain ⟨p, Op, rfl, rfl, rfl⟩ := of_valid hv.1
    obtain ⟨q, Oq, rfl, rfl, rfl⟩ := of_valid hv.2
    by_cases h0 : q = 0
    · subst h0
      exact ⟨_, _, _, _, fun W hW => Div_zero p Op W hW, fun W => RRDiv_zeroq p Op W⟩
    · by_cases hl : ShortQ p ∧ ShortQ q
      · exact ⟨_, _, _, _, fun W hW => Div_short p q hl.1 hl.2 h0 W hW, fun W => RRDiv_short p q hl.1 hl.2 h0 W⟩
      · exact ⟨_, _, _, _, fun W hW => Div_long p q Op Oq h0 hl W hW, fun W => RRDiv_long p q Op Oq h0 hl W⟩
  · have hb : validB g1 n1 d1 = false ∨ validB g2 n2 d2 = false := by
      cases h1 : validB g1 n1 d1 with
      | false => exact .inl rfl
      | true =>
        cases h2 : validB g2 n2 d2 with
        | false => exact .inr rfl
        | true => exact absurd ⟨h1, h2⟩ hv
    exact ⟨_, _, _, _, fun W hW => Div_bad g1 g2 n1 d1 n2 d2 W hW s1 s2 s3 s4 hb, fun W => RRDiv_bad g1 g2 n1 d1 n2 d2 W s1 s2 s3 s4 hb⟩

end Nt
end Go.Proofs.YtjjlnahipiinfaaGreatDoor
