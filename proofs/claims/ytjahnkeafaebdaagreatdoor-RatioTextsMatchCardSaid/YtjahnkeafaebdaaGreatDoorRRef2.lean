/- The reference's rational operations, Floor, Text, Parse; the same results as the program's. -/
import Derived.Test.YtjahnkeafaebdaaGreatDoorRRef1
import Derived.IntWalk
import Derived.BigRegion
import Derived.RegionTactic
namespace Go.Proofs.YtjahnkeafaebdaaGreatDoor
open Go.RowKit Go.Shelf
namespace Nt

set_option maxRecDepth 100000 in
set_option maxHeartbeats 2000000 in
theorem RRAdd_bad1 (g1 g2 : Bool) (n1 d1 n2 d2 : ByteArray)  (w : World)
    (v1 : ∀ W, Calls Tryz.prog 20 #[.agg #[.bool g1, .string n1, .string d1]] W fun e w' => e = .returned (.bool false) ∧ Below W.heap.size W w') :
    Calls Tryz.prog 19 #[.agg #[.bool g1, .string n1, .string d1], .agg #[.bool g2, .string n2, .string d2]] w fun e w' => e = .returned (.tuple #[.agg #[.bool false, .string ⟨#[]⟩, .string ⟨#[]⟩], .int .i64 1]) ∧ Below w.heap.size w w' := by
  have q0 := Lib.hid (TwoBoxes.new w g1 g2 n1 d1 n2 d2)
  have hB0 := Lib.hid (twoW_below w g1 g2 n1 d1 n2 d2)
  replace v1 := Lib.hid v1
  go_enter Tryz.func19, Tryz.ntmps19
  go_wp2_with fail
  refine (v1.out _).mono ?_
  rintro e w1 ⟨rfl, hb⟩
  have q1 := q0.out.below hb
  have hB1 := Lib.hid (hB0.out.trans (hb.mono hB0.out.size))
  clear hb
  obtain ⟨a1, a2, a3, a4, a5, a6⟩ := q1.1.facts
  obtain ⟨b1, b2, b3, b4, b5, b6⟩ := q1.2.1.facts
  obtain ⟨c1, c2, c3, c4, c5, c6⟩ := q1.2.2.facts
  have c7 := q1.2.2.lt
  replace q1 := Lib.hid q1
  go_wp2
  refine bodyPost_ret (v := .tuple #[.agg #[.bool false, .string ⟨#[]⟩, .string ⟨#[]⟩], .int .i64 1]) (by simp [results, Tryz.results19, go_sem, c1, c2, c3]) rfl ⟨rfl, ?_⟩
  repeat refine Below.setCell ?_ (by simp only []; omega) _
  exact hB1.out

set_option maxRecDepth 100000 in
set_option maxHeartbeats 2000000 in
theorem RRAdd_bad2 (g1 g2 : Bool) (n1 d1 n2 d2 : ByteArray)  (w : World)
    (v1 : ∀ W, Calls Tryz.prog 20 #[.agg #[.bool g1, .string n1, .string d1]] W fun e w' => e = .returned (.bool true) ∧ Below W.heap.size W w')
    (v2 : ∀ W, Calls Tryz.prog 20 #[.agg #[.bool g2, .string n2, .string d2]] W fun e w' => e = .returned (.bool false) ∧ Below W.heap.size W w') :
    Calls Tryz.prog 19 #[.agg #[.bool g1, .string n1, .string d1], .agg #[.bool g2, .string n2, .string d2]] w fun e w' => e = .returned (.tuple #[.agg #[.bool false, .string ⟨#[]⟩, .string ⟨#[]⟩], .int .i64 1]) ∧ Below w.heap.size w w' := by
  have q0 := Lib.hid (TwoBoxes.new w g1 g2 n1 d1 n2 d2)
  have hB0 := Lib.hid (twoW_below w g1 g2 n1 d1 n2 d2)
  replace v1 := Lib.hid v1
  replace v2 := Lib.hid v2
  go_enter Tryz.func19, Tryz.ntmps19
  go_wp2_with fail
  refine (v1.out _).mono ?_
  rintro e w1 ⟨rfl, hb⟩
  have q1 := q0.out.below hb
  have hB1 := Lib.hid (hB0.out.trans (hb.mono hB0.out.size))
  clear hb
  obtain ⟨a1, a2, a3, a4, a5, a6⟩ := q1.1.facts
  obtain ⟨b1, b2, b3, b4, b5, b6⟩ := q1.2.1.facts
  obtain ⟨c1, c2, c3, c4, c5, c6⟩ := q1.2.2.facts
  have c7 := q1.2.2.lt
  replace q1 := Lib.hid q1
  go_wp2_with fail
  refine (v2.out _).mono ?_
  rintro e w2 ⟨rfl, hb⟩
  have q2 := q1.out.below hb
  have hB2 := Lib.hid (hB1.out.trans (hb.mono hB1.out.size))
  clear a1 a2 a3 a4 a5 a6 b1 b2 b3 b4 b5 b6 c1 c2 c3 c4 c5 c6 c7
  clear hb
  obtain ⟨a1, a2, a3, a4, a5, a6⟩ := q2.1.facts
  obtain ⟨b1, b2, b3, b4, b5, b6⟩ := q2.2.1.facts
  obtain ⟨c1, c2, c3, c4, c5, c6⟩ := q2.2.2.facts
  have c7 := q2.2.2.lt
  replace q2 := Lib.hid q2
  go_wp2
  refine bodyPost_ret (v := .tuple #[.agg #[.bool false, .string ⟨#[]⟩, .string ⟨#[]⟩], .int .i64 1]) (by simp [results, Tryz.results19, go_sem, c1, c2, c3]) rfl ⟨rfl, ?_⟩
  repeat refine Below.setCell ?_ (by simp only []; omega) _
  exact hB2.out

set_option maxRecDepth 100000 in
set_option maxHeartbeats 2000000 in
theorem RRAdd_long1 (g1 g2 : Bool) (n1 d1 n2 d2 : ByteArray)  (w : World)
    (v1 : ∀ W, Calls Tryz.prog 20 #[.agg #[.bool g1, .string n1, .string d1]] W fun e w' => e = .returned (.bool true) ∧ Below W.heap.size W w')
    (v2 : ∀ W, Calls Tryz.prog 20 #[.agg #[.bool g2, .string n2, .string d2]] W fun e w' => e = .returned (.bool true) ∧ Below W.heap.size W w')
    (l1 : ∀ W, Calls Tryz.prog 49 #[.agg #[.bool g1, .string n1, .string d1]] W fun e w' => e = .returned (.bool true) ∧ Below W.heap.size W w') :
    Calls Tryz.prog 19 #[.agg #[.bool g1, .string n1, .string d1], .agg #[.bool g2, .string n2, .string d2]] w fun e w' => e = .returned (.tuple #[.agg #[.bool false, .string ⟨#[]⟩, .string ⟨#[]⟩], .int .i64 2]) ∧ Below w.heap.size w w' := by
  have q0 := Lib.hid (TwoBoxes.new w g1 g2 n1 d1 n2 d2)
  have hB0 := Lib.hid (twoW_below w g1 g2 n1 d1 n2 d2)
  replace v1 := Lib.hid v1
  replace v2 := Lib.hid v2
  replace l1 := Lib.hid l1
  go_enter Tryz.func19, Tryz.ntmps19
  go_wp2_with fail
  refine (v1.out _).mono ?_
  rintro e w1 ⟨rfl, hb⟩
  have q1 := q0.out.below hb
  have hB1 := Lib.hid (hB0.out.trans (hb.mono hB0.out.size))
  clear hb
  obtain ⟨a1, a2, a3, a4, a5, a6⟩ := q1.1.facts
  obtain ⟨b1, b2, b3, b4, b5, b6⟩ := q1.2.1.facts
  obtain ⟨c1, c2, c3, c4, c5, c6⟩ := q1.2.2.facts
  have c7 := q1.2.2.lt
  replace q1 := Lib.hid q1
  go_wp2_with fail
  refine (v2.out _).mono ?_
  rintro e w2 ⟨rfl, hb⟩
  have q2 := q1.out.below hb
  have hB2 := Lib.hid (hB1.out.trans (hb.mono hB1.out.size))
  clear a1 a2 a3 a4 a5 a6 b1 b2 b3 b4 b5 b6 c1 c2 c3 c4 c5 c6 c7
  clear hb
  obtain ⟨a1, a2, a3, a4, a5, a6⟩ := q2.1.facts
  obtain ⟨b1, b2, b3, b4, b5, b6⟩ := q2.2.1.facts
  obtain ⟨c1, c2, c3, c4, c5, c6⟩ := q2.2.2.facts
  have c7 := q2.2.2.lt
  replace q2 := Lib.hid q2
  go_wp2_with fail
  refine (l1.out _).mono ?_
  rintro e w3 ⟨rfl, hb⟩
  have q3 := q2.out.below hb
  have hB3 := Lib.hid (hB2.out.trans (hb.mono hB2.out.size))
  clear a1 a2 a3 a4 a5 a6 b1 b2 b3 b4 b5 b6 c1 c2 c3 c4 c5 c6 c7
  clear hb
  obtain ⟨a1, a2, a3, a4, a5, a6⟩ := q3.1.facts
  obtain ⟨b1, b2, b3, b4, b5, b6⟩ := q3.2.1.facts
  obtain ⟨c1, c2, c3, c4, c5, c6⟩ := q3.2.2.facts
  have c7 := q3.2.2.lt
  replace q3 := Lib.hid q3
  go_wp2
  refine bodyPost_ret (v := .tuple #[.agg #[.bool false, .string ⟨#[]⟩, .string ⟨#[]⟩], .int .i64 2]) (by simp [results, Tryz.results19, go_sem, c1, c2, c3]) rfl ⟨rfl, ?_⟩
  repeat refine Below.setCell ?_ (by simp only []; omega) _
  exact hB3.out

set_option maxRecDepth 100000 in
set_option maxHeartbeats 2000000 in
theorem RRAdd_long2 (g1 g2 : Bool) (n1 d1 n2 d2 : ByteArray)  (w : World)
    (v1 : ∀ W, Calls Tryz.prog 20 #[.agg #[.bool g1, .string n1, .string d1]] W fun e w' => e = .returned (.bool true) ∧ Below W.heap.size W w')
    (v2 : ∀ W, Calls Tryz.prog 20 #[.agg #[.bool g2, .string n2, .string d2]] W fun e w' => e = .returned (.bool true) ∧ Below W.heap.size W w')
    (l1 : ∀ W, Calls Tryz.prog 49 #[.agg #[.bool g1, .string n1, .string d1]] W fun e w' => e = .returned (.bool false) ∧ Below W.heap.size W w')
    (l2 : ∀ W, Calls Tryz.prog 49 #[.agg #[.bool g2, .string n2, .string d2]] W fun e w' => e = .returned (.bool true) ∧ Below W.heap.size W w') :
    Calls Tryz.prog 19 #[.agg #[.bool g1, .string n1, .string d1], .agg #[.bool g2, .string n2, .string d2]] w fun e w' => e = .returned (.tuple #[.agg #[.bool false, .string ⟨#[]⟩, .string ⟨#[]⟩], .int .i64 2]) ∧ Below w.heap.size w w' := by
  have q0 := Lib.hid (TwoBoxes.new w g1 g2 n1 d1 n2 d2)
  have hB0 := Lib.hid (twoW_below w g1 g2 n1 d1 n2 d2)
  replace v1 := Lib.hid v1
  replace v2 := Lib.hid v2
  replace l1 := Lib.hid l1
  replace l2 := Lib.hid l2
  go_enter Tryz.func19, Tryz.ntmps19
  go_wp2_with fail
  refine (v1.out _).mono ?_
  rintro e w1 ⟨rfl, hb⟩
  have q1 := q0.out.below hb
  have hB1 := Lib.hid (hB0.out.trans (hb.mono hB0.out.size))
  clear hb
  obtain ⟨a1, a2, a3, a4, a5, a6⟩ := q1.1.facts
  obtain ⟨b1, b2, b3, b4, b5, b6⟩ := q1.2.1.facts
  obtain ⟨c1, c2, c3, c4, c5, c6⟩ := q1.2.2.facts
  have c7 := q1.2.2.lt
  replace q1 := Lib.hid q1
  go_wp2_with fail
  refine (v2.out _).mono ?_
  rintro e w2 ⟨rfl, hb⟩
  have q2 := q1.out.below hb
  have hB2 := Lib.hid (hB1.out.trans (hb.mono hB1.out.size))
  clear a1 a2 a3 a4 a5 a6 b1 b2 b3 b4 b5 b6 c1 c2 c3 c4 c5 c6 c7
  clear hb
  obtain ⟨a1, a2, a3, a4, a5, a6⟩ := q2.1.facts
  obtain ⟨b1, b2, b3, b4, b5, b6⟩ := q2.2.1.facts
  obtain ⟨c1, c2, c3, c4, c5, c6⟩ := q2.2.2.facts
  have c7 := q2.2.2.lt
  replace q2 := Lib.hid q2
  go_wp2_with fail
  refine (l1.out _).mono ?_
  rintro e w3 ⟨rfl, hb⟩
  have q3 := q2.out.below hb
  have hB3 := Lib.hid (hB2.out.trans (hb.mono hB2.out.size))
  clear a1 a2 a3 a4 a5 a6 b1 b2 b3 b4 b5 b6 c1 c2 c3 c4 c5 c6 c7
  clear hb
  obtain ⟨a1, a2, a3, a4, a5, a6⟩ := q3.1.facts
  obtain ⟨b1, b2, b3, b4, b5, b6⟩ := q3.2.1.facts
  obtain ⟨c1, c2, c3, c4, c5, c6⟩ := q3.2.2.facts
  have c7 := q3.2.2.lt
  replace q3 := Lib.hid q3
  go_wp2_with fail
  refine (l2.out _).mono ?_
  rintro e w4 ⟨rfl, hb⟩
  have q4 := q3.out.below hb
  have hB4 := Lib.hid (hB3.out.trans (hb.mono hB3.out.size))
  clear a1 a2 a3 a4 a5 a6 b1 b2 b3 b4 b5 b6 c1 c2 c3 c4 c5 c6 c7
  clear hb
  obtain ⟨a1, a2, a3, a4, a5, a6⟩ := q4.1.facts
  obtain ⟨b1, b2, b3, b4, b5, b6⟩ := q4.2.1.facts
  obtain ⟨c1, c2, c3, c4, c5, c6⟩ := q4.2.2.facts
  have c7 := q4.2.2.lt
  replace q4 := Lib.hid q4
  go_wp2
  refine bodyPost_ret (v := .tuple #[.agg #[.bool false, .string ⟨#[]⟩, .string ⟨#[]⟩], .int .i64 2]) (by simp [results, Tryz.results19, go_sem, c1, c2, c3]) rfl ⟨rfl, ?_⟩
  repeat refine Below.setCell ?_ (by simp only []; omega) _
  exact hB4.out

set_option maxRecDepth 100000 in
set_option maxHeartbeats 2000000 in
theorem RRSub_bad1 (g1 g2 : Bool) (n1 d1 n2 d2 : ByteArray)  (w : World)
    (v1 : ∀ W, Calls Tryz.prog 20 #[.agg #[.bool g1, .string n1, .string d1]] W fun e w' => e = .returned (.bool false) ∧ Below W.heap.size W w') :
    Calls Tryz.prog 22 #[.agg #[.bool g1, .string n1, .string d1], .agg #[.bool g2, .string n2, .string d2]] w fun e w' => e = .returned (.tuple #[.agg #[.bool false, .string ⟨#[]⟩, .string ⟨#[]⟩], .int .i64 1]) ∧ Below w.heap.size w w' := by
  have q0 := Lib.hid (TwoBoxes.new w g1 g2 n1 d1 n2 d2)
  have hB0 := Lib.hid (twoW_below w g1 g2 n1 d1 n2 d2)
  replace v1 := Lib.hid v1
  go_enter Tryz.func22, Tryz.ntmps22
  go_wp2_with fail
  refine (v1.out _).mono ?_
  rintro e w1 ⟨rfl, hb⟩
  have q1 := q0.out.below hb
  have hB1 := Lib.hid (hB0.out.trans (hb.mono hB0.out.size))
  clear hb
  obtain ⟨a1, a2, a3, a4, a5, a6⟩ := q1.1.facts
  obtain ⟨b1, b2, b3, b4, b5, b6⟩ := q1.2.1.facts
  obtain ⟨c1, c2, c3, c4, c5, c6⟩ := q1.2.2.facts
  have c7 := q1.2.2.lt
  replace q1 := Lib.hid q1
  go_wp2
  refine bodyPost_ret (v := .tuple #[.agg #[.bool false, .string ⟨#[]⟩, .string ⟨#[]⟩], .int .i64 1]) (by simp [results, Tryz.results22, go_sem, c1, c2, c3]) rfl ⟨rfl, ?_⟩
  repeat refine Below.setCell ?_ (by simp only []; omega) _
  exact hB1.out

set_option maxRecDepth 100000 in
set_option maxHeartbeats 2000000 in
theorem RRSub_bad2 (g1 g2 : Bool) (n1 d1 n2 d2 : ByteArray)  (w : World)
    (v1 : ∀ W, Calls Tryz.prog 20 #[.agg #[.bool g1, .string n1, .string d1]] W fun e w' => e = .returned (.bool true) ∧ Below W.heap.size W w')
    (v2 : ∀ W, Calls Tryz.prog 20 #[.agg #[.bool g2, .string n2, .string d2]] W fun e w' => e = .returned (.bool false) ∧ Below W.heap.size W w') :
    Calls Tryz.prog 22 #[.agg #[.bool g1, .string n1, .string d1], .agg #[.bool g2, .string n2, .string d2]] w fun e w' => e = .returned (.tuple #[.agg #[.bool false, .string ⟨#[]⟩, .string ⟨#[]⟩], .int .i64 1]) ∧ Below w.heap.size w w' := by
  have q0 := Lib.hid (TwoBoxes.new w g1 g2 n1 d1 n2 d2)
  have hB0 := Lib.hid (twoW_below w g1 g2 n1 d1 n2 d2)
  replace v1 := Lib.hid v1
  replace v2 := Lib.hid v2
  go_enter Tryz.func22, Tryz.ntmps22
  go_wp2_with fail
  refine (v1.out _).mono ?_
  rintro e w1 ⟨rfl, hb⟩
  have q1 := q0.out.below hb
  have hB1 := Lib.hid (hB0.out.trans (hb.mono hB0.out.size))
  clear hb
  obtain ⟨a1, a2, a3, a4, a5, a6⟩ := q1.1.facts
  obtain ⟨b1, b2, b3, b4, b5, b6⟩ := q1.2.1.facts
  obtain ⟨c1, c2, c3, c4, c5, c6⟩ := q1.2.2.facts
  have c7 := q1.2.2.lt
  replace q1 := Lib.hid q1
  go_wp2_with fail
  refine (v2.out _).mono ?_
  rintro e w2 ⟨rfl, hb⟩
  have q2 := q1.out.below hb
  have hB2 := Lib.hid (hB1.out.trans (hb.mono hB1.out.size))
  clear a1 a2 a3 a4 a5 a6 b1 b2 b3 b4 b5 b6 c1 c2 c3 c4 c5 c6 c7
  clear hb
  obtain ⟨a1, a2, a3, a4, a5, a6⟩ := q2.1.facts
  obtain ⟨b1, b2, b3, b4, b5, b6⟩ := q2.2.1.facts
  obtain ⟨c1, c2, c3, c4, c5, c6⟩ := q2.2.2.facts
  have c7 := q2.2.2.lt
  replace q2 := Lib.hid q2
  go_wp2
  refine bodyPost_ret (v := .tuple #[.agg #[.bool false, .string ⟨#[]⟩, .string ⟨#[]⟩], .int .i64 1]) (by simp [results, Tryz.results22, go_sem, c1, c2, c3]) rfl ⟨rfl, ?_⟩
  repeat refine Below.setCell ?_ (by simp only []; omega) _
  exact hB2.out

set_option maxRecDepth 100000 in
set_option maxHeartbeats 2000000 in
theorem RRMul_bad1 (g1 g2 : Bool) (n1 d1 n2 d2 : ByteArray)  (w : World)
    (v1 : ∀ W, Calls Tryz.prog 20 #[.agg #[.bool g1, .string n1, .string d1]] W fun e w' => e = .returned (.bool false) ∧ Below W.heap.size W w') :
    Calls Tryz.prog 24 #[.agg #[.bool g1, .string n1, .string d1], .agg #[.bool g2, .string n2, .string d2]] w fun e w' => e = .returned (.tuple #[.agg #[.bool false, .string ⟨#[]⟩, .string ⟨#[]⟩], .int .i64 1]) ∧ Below w.heap.size w w' := by
  have q0 := Lib.hid (TwoBoxes.new w g1 g2 n1 d1 n2 d2)
  have hB0 := Lib.hid (twoW_below w g1 g2 n1 d1 n2 d2)
  replace v1 := Lib.hid v1
  go_enter Tryz.func24, Tryz.ntmps24
  go_wp2_with fail
  refine (v1.out _).mono ?_
  rintro e w1 ⟨rfl, hb⟩
  have q1 := q0.out.below hb
  have hB1 := Lib.hid (hB0.out.trans (hb.mono hB0.out.size))
  clear hb
  obtain ⟨a1, a2, a3, a4, a5, a6⟩ := q1.1.facts
  obtain ⟨b1, b2, b3, b4, b5, b6⟩ := q1.2.1.facts
  obtain ⟨c1, c2, c3, c4, c5, c6⟩ := q1.2.2.facts
  have c7 := q1.2.2.lt
  replace q1 := Lib.hid q1
  go_wp2
  refine bodyPost_ret (v := .tuple #[.agg #[.bool false, .string ⟨#[]⟩, .string ⟨#[]⟩], .int .i64 1]) (by simp [results, Tryz.results24, go_sem, c1, c2, c3]) rfl ⟨rfl, ?_⟩
  repeat refine Below.setCell ?_ (by simp only []; omega) _
  exact hB1.out

set_option maxRecDepth 100000 in
set_option maxHeartbeats 2000000 in
theorem RRMul_bad2 (g1 g2 : Bool) (n1 d1 n2 d2 : ByteArray)  (w : World)
    (v1 : ∀ W, Calls Tryz.prog 20 #[.agg #[.bool g1, .string n1, .string d1]] W fun e w' => e = .returned (.bool true) ∧ Below W.heap.size W w')
    (v2 : ∀ W, Calls Tryz.prog 20 #[.agg #[.bool g2, .string n2, .string d2]] W fun e w' => e = .returned (.bool false) ∧ Below W.heap.size W w') :
    Calls Tryz.prog 24 #[.agg #[.bool g1, .string n1, .string d1], .agg #[.bool g2, .string n2, .string d2]] w fun e w' => e = .returned (.tuple #[.agg #[.bool false, .string ⟨#[]⟩, .string ⟨#[]⟩], .int .i64 1]) ∧ Below w.heap.size w w' := by
  have q0 := Lib.hid (TwoBoxes.new w g1 g2 n1 d1 n2 d2)
  have hB0 := Lib.hid (twoW_below w g1 g2 n1 d1 n2 d2)
  replace v1 := Lib.hid v1
  replace v2 := Lib.hid v2
  go_enter Tryz.func24, Tryz.ntmps24
  go_wp2_with fail
  refine (v1.out _).mono ?_
  rintro e w1 ⟨rfl, hb⟩
  have q1 := q0.out.below hb
  have hB1 := Lib.hid (hB0.out.trans (hb.mono hB0.out.size))
  clear hb
  obtain ⟨a1, a2, a3, a4, a5, a6⟩ := q1.1.facts
  obtain ⟨b1, b2, b3, b4, b5, b6⟩ := q1.2.1.facts
  obtain ⟨c1, c2, c3, c4, c5, c6⟩ := q1.2.2.facts
  have c7 := q1.2.2.lt
  replace q1 := Lib.hid q1
  go_wp2_with fail
  refine (v2.out _).mono ?_
  rintro e w2 ⟨rfl, hb⟩
  have q2 := q1.out.below hb
  have hB2 := Lib.hid (hB1.out.trans (hb.mono hB1.out.size))
  clear a1 a2 a3 a4 a5 a6 b1 b2 b3 b4 b5 b6 c1 c2 c3 c4 c5 c6 c7
  clear hb
  obtain ⟨a1, a2, a3, a4, a5, a6⟩ := q2.1.facts
  obtain ⟨b1, b2, b3, b4, b5, b6⟩ := q2.2.1.facts
  obtain ⟨c1, c2, c3, c4, c5, c6⟩ := q2.2.2.facts
  have c7 := q2.2.2.lt
  replace q2 := Lib.hid q2
  go_wp2
  refine bodyPost_ret (v := .tuple #[.agg #[.bool false, .string ⟨#[]⟩, .string ⟨#[]⟩], .int .i64 1]) (by simp [results, Tryz.results24, go_sem, c1, c2, c3]) rfl ⟨rfl, ?_⟩
  repeat refine Below.setCell ?_ (by simp only []; omega) _
  exact hB2.out

set_option maxRecDepth 100000 in
set_option maxHeartbeats 2000000 in
theorem RRMul_long1 (g1 g2 : Bool) (n1 d1 n2 d2 : ByteArray)  (w : World)
    (v1 : ∀ W, Calls Tryz.prog 20 #[.agg #[.bool g1, .string n1, .string d1]] W fun e w' => e = .returned (.bool true) ∧ Below W.heap.size W w')
    (v2 : ∀ W, Calls Tryz.prog 20 #[.agg #[.bool g2, .string n2, .string d2]] W fun e w' => e = .returned (.bool true) ∧ Below W.heap.size W w')
    (l1 : ∀ W, Calls Tryz.prog 49 #[.agg #[.bool g1, .string n1, .string d1]] W fun e w' => e = .returned (.bool true) ∧ Below W.heap.size W w') :
    Calls Tryz.prog 24 #[.agg #[.bool g1, .string n1, .string d1], .agg #[.bool g2, .string n2, .string d2]] w fun e w' => e = .returned (.tuple #[.agg #[.bool false, .string ⟨#[]⟩, .string ⟨#[]⟩], .int .i64 2]) ∧ Below w.heap.size w w' := by
  have q0 := Lib.hid (TwoBoxes.new w g1 g2 n1 d1 n2 d2)
  have hB0 := Lib.hid (twoW_below w g1 g2 n1 d1 n2 d2)
  replace v1 := Lib.hid v1
  replace v2 := Lib.hid v2
  replace l1 := Lib.hid l1
  go_enter Tryz.func24, Tryz.ntmps24
  go_wp2_with fail
  refine (v1.out _).mono ?_
  rintro e w1 ⟨rfl, hb⟩
  have q1 := q0.out.below hb
  have hB1 := Lib.hid (hB0.out.trans (hb.mono hB0.out.size))
  clear hb
  obtain ⟨a1, a2, a3, a4, a5, a6⟩ := q1.1.facts
  obtain ⟨b1, b2, b3, b4, b5, b6⟩ := q1.2.1.facts
  obtain ⟨c1, c2, c3, c4, c5, c6⟩ := q1.2.2.facts
  have c7 := q1.2.2.lt
  replace q1 := Lib.hid q1
  go_wp2_with fail
  refine (v2.out _).mono ?_
  rintro e w2 ⟨rfl, hb⟩
  have q2 := q1.out.below hb
  have hB2 := Lib.hid (hB1.out.trans (hb.mono hB1.out.size))
  clear a1 a2 a3 a4 a5 a6 b1 b2 b3 b4 b5 b6 c1 c2 c3 c4 c5 c6 c7
  clear hb
  obtain ⟨a1, a2, a3, a4, a5, a6⟩ := q2.1.facts
  obtain ⟨b1, b2, b3, b4, b5, b6⟩ := q2.2.1.facts
  obtain ⟨c1, c2, c3, c4, c5, c6⟩ := q2.2.2.facts
  have c7 := q2.2.2.lt
  replace q2 := Lib.hid q2
  go_wp2_with fail
  refine (l1.out _).mono ?_
  rintro e w3 ⟨rfl, hb⟩
  have q3 := q2.out.below hb
  have hB3 := Lib.hid (hB2.out.trans (hb.mono hB2.out.size))
  clear a1 a2 a3 a4 a5 a6 b1 b2 b3 b4 b5 b6 c1 c2 c3 c4 c5 c6 c7
  clear hb
  obtain ⟨a1, a2, a3, a4, a5, a6⟩ := q3.1.facts
  obtain ⟨b1, b2, b3, b4, b5, b6⟩ := q3.2.1.facts
  obtain ⟨c1, c2, c3, c4, c5, c6⟩ := q3.2.2.facts
  have c7 := q3.2.2.lt
  replace q3 := Lib.hid q3
  go_wp2
  refine bodyPost_ret (v := .tuple #[.agg #[.bool false, .string ⟨#[]⟩, .string ⟨#[]⟩], .int .i64 2]) (by simp [results, Tryz.results24, go_sem, c1, c2, c3]) rfl ⟨rfl, ?_⟩
  repeat refine Below.setCell ?_ (by simp only []; omega) _
  exact hB3.out

set_option maxRecDepth 100000 in
set_option maxHeartbeats 2000000 in
theorem RRMul_long2 (g1 g2 : Bool) (n1 d1 n2 d2 : ByteArray)  (w : World)
    (v1 : ∀ W, Calls Tryz.prog 20 #[.agg #[.bool g1, .string n1, .string d1]] W fun e w' => e = .returned (.bool true) ∧ Below W.heap.size W w')
    (v2 : ∀ W, Calls Tryz.prog 20 #[.agg #[.bool g2, .string n2, .string d2]] W fun e w' => e = .returned (.bool true) ∧ Below W.heap.size W w')
    (l1 : ∀ W, Calls Tryz.prog 49 #[.agg #[.bool g1, .string n1, .string d1]] W fun e w' => e = .returned (.bool false) ∧ Below W.heap.size W w')
    (l2 : ∀ W, Calls Tryz.prog 49 #[.agg #[.bool g2, .string n2, .string d2]] W fun e w' => e = .returned (.bool true) ∧ Below W.heap.size W w') :
    Calls Tryz.prog 24 #[.agg #[.bool g1, .string n1, .string d1], .agg #[.bool g2, .string n2, .string d2]] w fun e w' => e = .returned (.tuple #[.agg #[.bool false, .string ⟨#[]⟩, .string ⟨#[]⟩], .int .i64 2]) ∧ Below w.heap.size w w' := by
  have q0 := Lib.hid (TwoBoxes.new w g1 g2 n1 d1 n2 d2)
  have hB0 := Lib.hid (twoW_below w g1 g2 n1 d1 n2 d2)
  replace v1 := Lib.hid v1
  replace v2 := Lib.hid v2
  replace l1 := Lib.hid l1
  replace l2 := Lib.hid l2
  go_enter Tryz.func24, Tryz.ntmps24
  go_wp2_with fail
  refine (v1.out _).mono ?_
  rintro e w1 ⟨rfl, hb⟩
  have q1 := q0.out.below hb
  have hB1 := Lib.hid (hB0.out.trans (hb.mono hB0.out.size))
  clear hb
  obtain ⟨a1, a2, a3, a4, a5, a6⟩ := q1.1.facts
  obtain ⟨b1, b2, b3, b4, b5, b6⟩ := q1.2.1.facts
  obtain ⟨c1, c2, c3, c4, c5, c6⟩ := q1.2.2.facts
  have c7 := q1.2.2.lt
  replace q1 := Lib.hid q1
  go_wp2_with fail
  refine (v2.out _).mono ?_
  rintro e w2 ⟨rfl, hb⟩
  have q2 := q1.out.below hb
  have hB2 := Lib.hid (hB1.out.trans (hb.mono hB1.out.size))
  clear a1 a2 a3 a4 a5 a6 b1 b2 b3 b4 b5 b6 c1 c2 c3 c4 c5 c6 c7
  clear hb
  obtain ⟨a1, a2, a3, a4, a5, a6⟩ := q2.1.facts
  obtain ⟨b1, b2, b3, b4, b5, b6⟩ := q2.2.1.facts
  obtain ⟨c1, c2, c3, c4, c5, c6⟩ := q2.2.2.facts
  have c7 := q2.2.2.lt
  replace q2 := Lib.hid q2
  go_wp2_with fail
  refine (l1.out _).mono ?_
  rintro e w3 ⟨rfl, hb⟩
  have q3 := q2.out.below hb
  have hB3 := Lib.hid (hB2.out.trans (hb.mono hB2.out.size))
  clear a1 a2 a3 a4 a5 a6 b1 b2 b3 b4 b5 b6 c1 c2 c3 c4 c5 c6 c7
  clear hb
  obtain ⟨a1, a2, a3, a4, a5, a6⟩ := q3.1.facts
  obtain ⟨b1, b2, b3, b4, b5, b6⟩ := q3.2.1.facts
  obtain ⟨c1, c2, c3, c4, c5, c6⟩ := q3.2.2.facts
  have c7 := q3.2.2.lt
  replace q3 := Lib.hid q3
  go_wp2_with fail
  refine (l2.out _).mono ?_
  rintro e w4 ⟨rfl, hb⟩
  have q4 := q3.out.below hb
  have hB4 := Lib.hid (hB3.out.trans (hb.mono hB3.out.size))
  clear a1 a2 a3 a4 a5 a6 b1 b2 b3 b4 b5 b6 c1 c2 c3 c4 c5 c6 c7
  clear hb
  obtain ⟨a1, a2, a3, a4, a5, a6⟩ := q4.1.facts
  obtain ⟨b1, b2, b3, b4, b5, b6⟩ := q4.2.1.facts
  obtain ⟨c1, c2, c3, c4, c5, c6⟩ := q4.2.2.facts
  have c7 := q4.2.2.lt
  replace q4 := Lib.hid q4
  go_wp2
  refine bodyPost_ret (v := .tuple #[.agg #[.bool false, .string ⟨#[]⟩, .string ⟨#[]⟩], .int .i64 2]) (by simp [results, Tryz.results24, go_sem, c1, c2, c3]) rfl ⟨rfl, ?_⟩
  repeat refine Below.setCell ?_ (by simp only []; omega) _
  exact hB4.out

set_option maxRecDepth 100000 in
set_option maxHeartbeats 2000000 in
theorem RRDiv_bad1 (g1 g2 : Bool) (n1 d1 n2 d2 : ByteArray)  (w : World)
    (v1 : ∀ W, Calls Tryz.prog 20 #[.agg #[.bool g1, .string n1, .string d1]] W fun e w' => e = .returned (.bool false) ∧ Below W.heap.size W w') :
    Calls Tryz.prog 26 #[.agg #[.bool g1, .string n1, .string d1], .agg #[.bool g2, .string n2, .string d2]] w fun e w' => e = .returned (.tuple #[.agg #[.bool false, .string ⟨#[]⟩, .string ⟨#[]⟩], .int .i64 1]) ∧ Below w.heap.size w w' := by
  have q0 := Lib.hid (TwoBoxes.new w g1 g2 n1 d1 n2 d2)
  have hB0 := Lib.hid (twoW_below w g1 g2 n1 d1 n2 d2)
  replace v1 := Lib.hid v1
  go_enter Tryz.func26, Tryz.ntmps26
  go_wp2_with fail
  refine (v1.out _).mono ?_
  rintro e w1 ⟨rfl, hb⟩
  have q1 := q0.out.below hb
  have hB1 := Lib.hid (hB0.out.trans (hb.mono hB0.out.size))
  clear hb
  obtain ⟨a1, a2, a3, a4, a5, a6⟩ := q1.1.facts
  obtain ⟨b1, b2, b3, b4, b5, b6⟩ := q1.2.1.facts
  obtain ⟨c1, c2, c3, c4, c5, c6⟩ := q1.2.2.facts
  have c7 := q1.2.2.lt
  replace q1 := Lib.hid q1
  go_wp2
  refine bodyPost_ret (v := .tuple #[.agg #[.bool false, .string ⟨#[]⟩, .string ⟨#[]⟩], .int .i64 1]) (by simp [results, Tryz.results26, go_sem, c1, c2, c3]) rfl ⟨rfl, ?_⟩
  repeat refine Below.setCell ?_ (by simp only []; omega) _
  exact hB1.out

set_option maxRecDepth 100000 in
set_option maxHeartbeats 2000000 in
theorem RRDiv_bad2 (g1 g2 : Bool) (n1 d1 n2 d2 : ByteArray)  (w : World)
    (v1 : ∀ W, Calls Tryz.prog 20 #[.agg #[.bool g1, .string n1, .string d1]] W fun e w' => e = .returned (.bool true) ∧ Below W.heap.size W w')
    (v2 : ∀ W, Calls Tryz.prog 20 #[.agg #[.bool g2, .string n2, .string d2]] W fun e w' => e = .returned (.bool false) ∧ Below W.heap.size W w') :
    Calls Tryz.prog 26 #[.agg #[.bool g1, .string n1, .string d1], .agg #[.bool g2, .string n2, .string d2]] w fun e w' => e = .returned (.tuple #[.agg #[.bool false, .string ⟨#[]⟩, .string ⟨#[]⟩], .int .i64 1]) ∧ Below w.heap.size w w' := by
  have q0 := Lib.hid (TwoBoxes.new w g1 g2 n1 d1 n2 d2)
  have hB0 := Lib.hid (twoW_below w g1 g2 n1 d1 n2 d2)
  replace v1 := Lib.hid v1
  replace v2 := Lib.hid v2
  go_enter Tryz.func26, Tryz.ntmps26
  go_wp2_with fail
  refine (v1.out _).mono ?_
  rintro e w1 ⟨rfl, hb⟩
  have q1 := q0.out.below hb
  have hB1 := Lib.hid (hB0.out.trans (hb.mono hB0.out.size))
  clear hb
  obtain ⟨a1, a2, a3, a4, a5, a6⟩ := q1.1.facts
  obtain ⟨b1, b2, b3, b4, b5, b6⟩ := q1.2.1.facts
  obtain ⟨c1, c2, c3, c4, c5, c6⟩ := q1.2.2.facts
  have c7 := q1.2.2.lt
  replace q1 := Lib.hid q1
  go_wp2_with fail
  refine (v2.out _).mono ?_
  rintro e w2 ⟨rfl, hb⟩
  have q2 := q1.out.below hb
  have hB2 := Lib.hid (hB1.out.trans (hb.mono hB1.out.size))
  clear a1 a2 a3 a4 a5 a6 b1 b2 b3 b4 b5 b6 c1 c2 c3 c4 c5 c6 c7
  clear hb
  obtain ⟨a1, a2, a3, a4, a5, a6⟩ := q2.1.facts
  obtain ⟨b1, b2, b3, b4, b5, b6⟩ := q2.2.1.facts
  obtain ⟨c1, c2, c3, c4, c5, c6⟩ := q2.2.2.facts
  have c7 := q2.2.2.lt
  replace q2 := Lib.hid q2
  go_wp2
  refine bodyPost_ret (v := .tuple #[.agg #[.bool false, .string ⟨#[]⟩, .string ⟨#[]⟩], .int .i64 1]) (by simp [results, Tryz.results26, go_sem, c1, c2, c3]) rfl ⟨rfl, ?_⟩
  repeat refine Below.setCell ?_ (by simp only []; omega) _
  exact hB2.out

set_option maxRecDepth 100000 in
set_option maxHeartbeats 2000000 in
theorem RRAdd_same (g1 : Bool) (n1 d1 n2 d2 : ByteArray) (x y z s : ByteArray) (r : Bool) (n d : ByteArray) (E : Int) (w : World)
    (v1 : ∀ W, Calls Tryz.prog 20 #[.agg #[.bool g1, .string n1, .string d1]] W fun e w' => e = .returned (.bool true) ∧ Below W.heap.size W w')
    (v2 : ∀ W, Calls Tryz.prog 20 #[.agg #[.bool g1, .string n2, .string d2]] W fun e w' => e = .returned (.bool true) ∧ Below W.heap.size W w')
    (l1 : ∀ W, Calls Tryz.prog 49 #[.agg #[.bool g1, .string n1, .string d1]] W fun e w' => e = .returned (.bool false) ∧ Below W.heap.size W w')
    (l2 : ∀ W, Calls Tryz.prog 49 #[.agg #[.bool g1, .string n2, .string d2]] W fun e w' => e = .returned (.bool false) ∧ Below W.heap.size W w')
    (mx : ∀ W, Calls Tryz.prog 50 #[.string n1, .string d2] W fun e w' => e = .returned (.tuple #[.string x, .int .i64 0]) ∧ Below W.heap.size W w')
    (my : ∀ W, Calls Tryz.prog 50 #[.string n2, .string d1] W fun e w' => e = .returned (.tuple #[.string y, .int .i64 0]) ∧ Below W.heap.size W w')
    (mz : ∀ W, Calls Tryz.prog 50 #[.string d1, .string d2] W fun e w' => e = .returned (.tuple #[.string z, .int .i64 0]) ∧ Below W.heap.size W w')
    (ks : ∀ W, Calls Tryz.prog 51 #[.string x, .string y] W fun e w' => e = .returned (.tuple #[.string s, .int .i64 0]) ∧ Below W.heap.size W w')
    (kr : ∀ W, Calls Tryz.prog 45 #[.bool g1, .string s, .string z] W fun e w' => e = .returned (.tuple #[.agg #[.bool r, .string n, .string d], .int .i64 E]) ∧ Below W.heap.size W w') :
    Calls Tryz.prog 19 #[.agg #[.bool g1, .string n1, .string d1], .agg #[.bool g1, .string n2, .string d2]] w fun e w' => e = .returned (.tuple #[.agg #[.bool r, .string n, .string d], .int .i64 E]) ∧ Below w.heap.size w w' := by
  have q0 := Lib.hid (TwoBoxes.new w g1 g1 n1 d1 n2 d2)
  have hB0 := Lib.hid (twoW_below w g1 g1 n1 d1 n2 d2)
  replace v1 := Lib.hid v1
  replace v2 := Lib.hid v2
  replace l1 := Lib.hid l1
  replace l2 := Lib.hid l2
  replace mx := Lib.hid mx
  replace my := Lib.hid my
  replace mz := Lib.hid mz
  replace ks := Lib.hid ks
  replace kr := Lib.hid kr
  go_enter Tryz.func19, Tryz.ntmps19
  go_wp2_with fail
  refine (v1.out _).mono ?_
  rintro e w1 ⟨rfl, hb⟩
  have q1 := q0.out.below hb
  have hB1 := Lib.hid (hB0.out.trans (hb.mono hB0.out.size))
  clear hb
  obtain ⟨a1, a2, a3, a4, a5, a6⟩ := q1.1.facts
  obtain ⟨b1, b2, b3, b4, b5, b6⟩ := q1.2.1.facts
  obtain ⟨c1, c2, c3, c4, c5, c6⟩ := q1.2.2.facts
  have c7 := q1.2.2.lt
  replace q1 := Lib.hid q1
  go_wp2_with fail
  refine (v2.out _).mono ?_
  rintro e w2 ⟨rfl, hb⟩
  have q2 := q1.out.below hb
  have hB2 := Lib.hid (hB1.out.trans (hb.mono hB1.out.size))
  clear a1 a2 a3 a4 a5 a6 b1 b2 b3 b4 b5 b6 c1 c2 c3 c4 c5 c6 c7
  clear hb
  obtain ⟨a1, a2, a3, a4, a5, a6⟩ := q2.1.facts
  obtain ⟨b1, b2, b3, b4, b5, b6⟩ := q2.2.1.facts
  obtain ⟨c1, c2, c3, c4, c5, c6⟩ := q2.2.2.facts
  have c7 := q2.2.2.lt
  replace q2 := Lib.hid q2
  go_wp2_with fail
  refine (l1.out _).mono ?_
  rintro e w3 ⟨rfl, hb⟩
  have q3 := q2.out.below hb
  have hB3 := Lib.hid (hB2.out.trans (hb.mono hB2.out.size))
  clear a1 a2 a3 a4 a5 a6 b1 b2 b3 b4 b5 b6 c1 c2 c3 c4 c5 c6 c7
  clear hb
  obtain ⟨a1, a2, a3, a4, a5, a6⟩ := q3.1.facts
  obtain ⟨b1, b2, b3, b4, b5, b6⟩ := q3.2.1.facts
  obtain ⟨c1, c2, c3, c4, c5, c6⟩ := q3.2.2.facts
  have c7 := q3.2.2.lt
  replace q3 := Lib.hid q3
  go_wp2_with fail
  refine (l2.out _).mono ?_
  rintro e w4 ⟨rfl, hb⟩
  have q4 := q3.out.below hb
  have hB4 := Lib.hid (hB3.out.trans (hb.mono hB3.out.size))
  clear a1 a2 a3 a4 a5 a6 b1 b2 b3 b4 b5 b6 c1 c2 c3 c4 c5 c6 c7
  clear hb
  obtain ⟨a1, a2, a3, a4, a5, a6⟩ := q4.1.facts
  obtain ⟨b1, b2, b3, b4, b5, b6⟩ := q4.2.1.facts
  obtain ⟨c1, c2, c3, c4, c5, c6⟩ := q4.2.2.facts
  have c7 := q4.2.2.lt
  replace q4 := Lib.hid q4
  go_wp2_with fail
  refine (mx.out _).mono ?_
  rintro e w5 ⟨rfl, hb⟩
  have q5 := q4.out.below hb
  have hB5 := Lib.hid (hB4.out.trans (hb.mono hB4.out.size))
  clear a1 a2 a3 a4 a5 a6 b1 b2 b3 b4 b5 b6 c1 c2 c3 c4 c5 c6 c7
  clear hb
  obtain ⟨a1, a2, a3, a4, a5, a6⟩ := q5.1.facts
  obtain ⟨b1, b2, b3, b4, b5, b6⟩ := q5.2.1.facts
  obtain ⟨c1, c2, c3, c4, c5, c6⟩ := q5.2.2.facts
  have c7 := q5.2.2.lt
  replace q5 := Lib.hid q5
  go_wp2_with fail
  refine (my.out _).mono ?_
  rintro e w6 ⟨rfl, hb⟩
  have q6 := q5.out.below hb
  have hB6 := Lib.hid (hB5.out.trans (hb.mono hB5.out.size))
  clear a1 a2 a3 a4 a5 a6 b1 b2 b3 b4 b5 b6 c1 c2 c3 c4 c5 c6 c7
  clear hb
  obtain ⟨a1, a2, a3, a4, a5, a6⟩ := q6.1.facts
  obtain ⟨b1, b2, b3, b4, b5, b6⟩ := q6.2.1.facts
  obtain ⟨c1, c2, c3, c4, c5, c6⟩ := q6.2.2.facts
  have c7 := q6.2.2.lt
  replace q6 := Lib.hid q6
  go_wp2_with fail
  refine (mz.out _).mono ?_
  rintro e w7 ⟨rfl, hb⟩
  have q7 := q6.out.below hb
  have hB7 := Lib.hid (hB6.out.trans (hb.mono hB6.out.size))
  clear a1 a2 a3 a4 a5 a6 b1 b2 b3 b4 b5 b6 c1 c2 c3 c4 c5 c6 c7
  clear hb
  obtain ⟨a1, a2, a3, a4, a5, a6⟩ := q7.1.facts
  obtain ⟨b1, b2, b3, b4, b5, b6⟩ := q7.2.1.facts
  obtain ⟨c1, c2, c3, c4, c5, c6⟩ := q7.2.2.facts
  have c7 := q7.2.2.lt
  replace q7 := Lib.hid q7
  go_wp2_with fail
  refine (ks.out _).mono ?_
  rintro e w8 ⟨rfl, hb⟩
  have q8 := q7.out.below hb
  have hB8 := Lib.hid (hB7.out.trans (hb.mono hB7.out.size))
  clear a1 a2 a3 a4 a5 a6 b1 b2 b3 b4 b5 b6 c1 c2 c3 c4 c5 c6 c7
  clear hb
  obtain ⟨a1, a2, a3, a4, a5, a6⟩ := q8.1.facts
  obtain ⟨b1, b2, b3, b4, b5, b6⟩ := q8.2.1.facts
  obtain ⟨c1, c2, c3, c4, c5, c6⟩ := q8.2.2.facts
  have c7 := q8.2.2.lt
  replace q8 := Lib.hid q8
  go_wp2_with fail
  refine (kr.out _).mono ?_
  rintro e w9 ⟨rfl, hb⟩
  have q9 := q8.out.below hb
  have hB9 := Lib.hid (hB8.out.trans (hb.mono hB8.out.size))
  clear a1 a2 a3 a4 a5 a6 b1 b2 b3 b4 b5 b6 c1 c2 c3 c4 c5 c6 c7
  clear hb
  obtain ⟨a1, a2, a3, a4, a5, a6⟩ := q9.1.facts
  obtain ⟨b1, b2, b3, b4, b5, b6⟩ := q9.2.1.facts
  obtain ⟨c1, c2, c3, c4, c5, c6⟩ := q9.2.2.facts
  have c7 := q9.2.2.lt
  replace q9 := Lib.hid q9
  go_wp2
  refine bodyPost_ret (v := .tuple #[.agg #[.bool r, .string n, .string d], .int .i64 E]) (by simp [results, Tryz.results19, go_sem, c1, c2, c3]) rfl ⟨rfl, ?_⟩
  repeat refine Below.setCell ?_ (by simp only []; omega) _
  exact hB9.out

set_option maxRecDepth 100000 in
set_option maxHeartbeats 2000000 in
theorem RRAdd_less (g1 g2 : Bool) (n1 d1 n2 d2 : ByteArray) (x y z s : ByteArray) (r : Bool) (n d : ByteArray) (E : Int) (c : Int) (hc : c < 0) (hg : (g1 == g2) = false) (w : World)
    (v1 : ∀ W, Calls Tryz.prog 20 #[.agg #[.bool g1, .string n1, .string d1]] W fun e w' => e = .returned (.bool true) ∧ Below W.heap.size W w')
    (v2 : ∀ W, Calls Tryz.prog 20 #[.agg #[.bool g2, .string n2, .string d2]] W fun e w' => e = .returned (.bool true) ∧ Below W.heap.size W w')
    (l1 : ∀ W, Calls Tryz.prog 49 #[.agg #[.bool g1, .string n1, .string d1]] W fun e w' => e = .returned (.bool false) ∧ Below W.heap.size W w')
    (l2 : ∀ W, Calls Tryz.prog 49 #[.agg #[.bool g2, .string n2, .string d2]] W fun e w' => e = .returned (.bool false) ∧ Below W.heap.size W w')
    (mx : ∀ W, Calls Tryz.prog 50 #[.string n1, .string d2] W fun e w' => e = .returned (.tuple #[.string x, .int .i64 0]) ∧ Below W.heap.size W w')
    (my : ∀ W, Calls Tryz.prog 50 #[.string n2, .string d1] W fun e w' => e = .returned (.tuple #[.string y, .int .i64 0]) ∧ Below W.heap.size W w')
    (mz : ∀ W, Calls Tryz.prog 50 #[.string d1, .string d2] W fun e w' => e = .returned (.tuple #[.string z, .int .i64 0]) ∧ Below W.heap.size W w')
    (kc : ∀ W, Calls Tryz.prog 52 #[.string x, .string y] W fun e w' => e = .returned (.tuple #[.int .i64 c, .int .i64 0]) ∧ Below W.heap.size W w')
    (ks : ∀ W, Calls Tryz.prog 53 #[.string y, .string x] W fun e w' => e = .returned (.tuple #[.string s, .int .i64 0]) ∧ Below W.heap.size W w')
    (kr : ∀ W, Calls Tryz.prog 45 #[.bool g2, .string s, .string z] W fun e w' => e = .returned (.tuple #[.agg #[.bool r, .string n, .string d], .int .i64 E]) ∧ Below W.heap.size W w') :
    Calls Tryz.prog 19 #[.agg #[.bool g1, .string n1, .string d1], .agg #[.bool g2, .string n2, .string d2]] w fun e w' => e = .returned (.tuple #[.agg #[.bool r, .string n, .string d], .int .i64 E]) ∧ Below w.heap.size w w' := by
  have q0 := Lib.hid (TwoBoxes.new w g1 g2 n1 d1 n2 d2)
  have hB0 := Lib.hid (twoW_below w g1 g2 n1 d1 n2 d2)
  replace v1 := Lib.hid v1
  replace v2 := Lib.hid v2
  replace l1 := Lib.hid l1
  replace l2 := Lib.hid l2
  replace mx := Lib.hid mx
  replace my := Lib.hid my
  replace mz := Lib.hid mz
  replace kc := Lib.hid kc
  replace ks := Lib.hid ks
  replace kr := Lib.hid kr
  go_enter Tryz.func19, Tryz.ntmps19
  go_wp2_with fail
  refine (v1.out _).mono ?_
  rintro e w1 ⟨rfl, hb⟩
  have q1 := q0.out.below hb
  have hB1 := Lib.hid (hB0.out.trans (hb.mono hB0.out.size))
  clear hb
  obtain ⟨a1, a2, a3, a4, a5, a6⟩ := q1.1.facts
  obtain ⟨b1, b2, b3, b4, b5, b6⟩ := q1.2.1.facts
  obtain ⟨c1, c2, c3, c4, c5, c6⟩ := q1.2.2.facts
  have c7 := q1.2.2.lt
  replace q1 := Lib.hid q1
  go_wp2_with fail
  refine (v2.out _).mono ?_
  rintro e w2 ⟨rfl, hb⟩
  have q2 := q1.out.below hb
  have hB2 := Lib.hid (hB1.out.trans (hb.mono hB1.out.size))
  clear a1 a2 a3 a4 a5 a6 b1 b2 b3 b4 b5 b6 c1 c2 c3 c4 c5 c6 c7
  clear hb
  obtain ⟨a1, a2, a3, a4, a5, a6⟩ := q2.1.facts
  obtain ⟨b1, b2, b3, b4, b5, b6⟩ := q2.2.1.facts
  obtain ⟨c1, c2, c3, c4, c5, c6⟩ := q2.2.2.facts
  have c7 := q2.2.2.lt
  replace q2 := Lib.hid q2
  go_wp2_with fail
  refine (l1.out _).mono ?_
  rintro e w3 ⟨rfl, hb⟩
  have q3 := q2.out.below hb
  have hB3 := Lib.hid (hB2.out.trans (hb.mono hB2.out.size))
  clear a1 a2 a3 a4 a5 a6 b1 b2 b3 b4 b5 b6 c1 c2 c3 c4 c5 c6 c7
  clear hb
  obtain ⟨a1, a2, a3, a4, a5, a6⟩ := q3.1.facts
  obtain ⟨b1, b2, b3, b4, b5, b6⟩ := q3.2.1.facts
  obtain ⟨c1, c2, c3, c4, c5, c6⟩ := q3.2.2.facts
  have c7 := q3.2.2.lt
  replace q3 := Lib.hid q3
  go_wp2_with fail
  refine (l2.out _).mono ?_
  rintro e w4 ⟨rfl, hb⟩
  have q4 := q3.out.below hb
  have hB4 := Lib.hid (hB3.out.trans (hb.mono hB3.out.size))
  clear a1 a2 a3 a4 a5 a6 b1 b2 b3 b4 b5 b6 c1 c2 c3 c4 c5 c6 c7
  clear hb
  obtain ⟨a1, a2, a3, a4, a5, a6⟩ := q4.1.facts
  obtain ⟨b1, b2, b3, b4, b5, b6⟩ := q4.2.1.facts
  obtain ⟨c1, c2, c3, c4, c5, c6⟩ := q4.2.2.facts
  have c7 := q4.2.2.lt
  replace q4 := Lib.hid q4
  go_wp2_with fail
  refine (mx.out _).mono ?_
  rintro e w5 ⟨rfl, hb⟩
  have q5 := q4.out.below hb
  have hB5 := Lib.hid (hB4.out.trans (hb.mono hB4.out.size))
  clear a1 a2 a3 a4 a5 a6 b1 b2 b3 b4 b5 b6 c1 c2 c3 c4 c5 c6 c7
  clear hb
  obtain ⟨a1, a2, a3, a4, a5, a6⟩ := q5.1.facts
  obtain ⟨b1, b2, b3, b4, b5, b6⟩ := q5.2.1.facts
  obtain ⟨c1, c2, c3, c4, c5, c6⟩ := q5.2.2.facts
  have c7 := q5.2.2.lt
  replace q5 := Lib.hid q5
  go_wp2_with fail
  refine (my.out _).mono ?_
  rintro e w6 ⟨rfl, hb⟩
  have q6 := q5.out.below hb
  have hB6 := Lib.hid (hB5.out.trans (hb.mono hB5.out.size))
  clear a1 a2 a3 a4 a5 a6 b1 b2 b3 b4 b5 b6 c1 c2 c3 c4 c5 c6 c7
  clear hb
  obtain ⟨a1, a2, a3, a4, a5, a6⟩ := q6.1.facts
  obtain ⟨b1, b2, b3, b4, b5, b6⟩ := q6.2.1.facts
  obtain ⟨c1, c2, c3, c4, c5, c6⟩ := q6.2.2.facts
  have c7 := q6.2.2.lt
  replace q6 := Lib.hid q6
  go_wp2_with fail
  refine (mz.out _).mono ?_
  rintro e w7 ⟨rfl, hb⟩
  have q7 := q6.out.below hb
  have hB7 := Lib.hid (hB6.out.trans (hb.mono hB6.out.size))
  clear a1 a2 a3 a4 a5 a6 b1 b2 b3 b4 b5 b6 c1 c2 c3 c4 c5 c6 c7
  clear hb
  obtain ⟨a1, a2, a3, a4, a5, a6⟩ := q7.1.facts
  obtain ⟨b1, b2, b3, b4, b5, b6⟩ := q7.2.1.facts
  obtain ⟨c1, c2, c3, c4, c5, c6⟩ := q7.2.2.facts
  have c7 := q7.2.2.lt
  replace q7 := Lib.hid q7
  go_wp2_with fail
  refine (kc.out _).mono ?_
  rintro e w8 ⟨rfl, hb⟩
  have q8 := q7.out.below hb
  have hB8 := Lib.hid (hB7.out.trans (hb.mono hB7.out.size))
  clear a1 a2 a3 a4 a5 a6 b1 b2 b3 b4 b5 b6 c1 c2 c3 c4 c5 c6 c7
  clear hb
  obtain ⟨a1, a2, a3, a4, a5, a6⟩ := q8.1.facts
  obtain ⟨b1, b2, b3, b4, b5, b6⟩ := q8.2.1.facts
  obtain ⟨c1, c2, c3, c4, c5, c6⟩ := q8.2.2.facts
  have c7 := q8.2.2.lt
  replace q8 := Lib.hid q8
  go_wp2_with fail
  refine (ks.out _).mono ?_
  rintro e w9 ⟨rfl, hb⟩
  have q9 := q8.out.below hb
  have hB9 := Lib.hid (hB8.out.trans (hb.mono hB8.out.size))
  clear a1 a2 a3 a4 a5 a6 b1 b2 b3 b4 b5 b6 c1 c2 c3 c4 c5 c6 c7
  clear hb
  obtain ⟨a1, a2, a3, a4, a5, a6⟩ := q9.1.facts
  obtain ⟨b1, b2, b3, b4, b5, b6⟩ := q9.2.1.facts
  obtain ⟨c1, c2, c3, c4, c5, c6⟩ := q9.2.2.facts
  have c7 := q9.2.2.lt
  replace q9 := Lib.hid q9
  go_wp2_with fail
  refine (kr.out _).mono ?_
  rintro e w10 ⟨rfl, hb⟩
  have q10 := q9.out.below hb
  have hB10 := Lib.hid (hB9.out.trans (hb.mono hB9.out.size))
  clear a1 a2 a3 a4 a5 a6 b1 b2 b3 b4 b5 b6 c1 c2 c3 c4 c5 c6 c7
  clear hb
  obtain ⟨a1, a2, a3, a4, a5, a6⟩ := q10.1.facts
  obtain ⟨b1, b2, b3, b4, b5, b6⟩ := q10.2.1.facts
  obtain ⟨c1, c2, c3, c4, c5, c6⟩ := q10.2.2.facts
  have c7 := q10.2.2.lt
  replace q10 := Lib.hid q10
  go_wp2
  refine bodyPost_ret (v := .tuple #[.agg #[.bool r, .string n, .string d], .int .i64 E]) (by simp [results, Tryz.results19, go_sem, c1, c2, c3]) rfl ⟨rfl, ?_⟩
  repeat refine Below.setCell ?_ (by simp only []; omega) _
  exact hB10.out

set_option maxRecDepth 100000 in
set_option maxHeartbeats 2000000 in
theorem RRAdd_more (g1 g2 : Bool) (n1 d1 n2 d2 : ByteArray) (x y z s : ByteArray) (r : Bool) (n d : ByteArray) (E : Int) (c : Int) (hc : 0 ≤ c) (hg : (g1 == g2) = false) (w : World)
    (v1 : ∀ W, Calls Tryz.prog 20 #[.agg #[.bool g1, .string n1, .string d1]] W fun e w' => e = .returned (.bool true) ∧ Below W.heap.size W w')
    (v2 : ∀ W, Calls Tryz.prog 20 #[.agg #[.bool g2, .string n2, .string d2]] W fun e w' => e = .returned (.bool true) ∧ Below W.heap.size W w')
    (l1 : ∀ W, Calls Tryz.prog 49 #[.agg #[.bool g1, .string n1, .string d1]] W fun e w' => e = .returned (.bool false) ∧ Below W.heap.size W w')
    (l2 : ∀ W, Calls Tryz.prog 49 #[.agg #[.bool g2, .string n2, .string d2]] W fun e w' => e = .returned (.bool false) ∧ Below W.heap.size W w')
    (mx : ∀ W, Calls Tryz.prog 50 #[.string n1, .string d2] W fun e w' => e = .returned (.tuple #[.string x, .int .i64 0]) ∧ Below W.heap.size W w')
    (my : ∀ W, Calls Tryz.prog 50 #[.string n2, .string d1] W fun e w' => e = .returned (.tuple #[.string y, .int .i64 0]) ∧ Below W.heap.size W w')
    (mz : ∀ W, Calls Tryz.prog 50 #[.string d1, .string d2] W fun e w' => e = .returned (.tuple #[.string z, .int .i64 0]) ∧ Below W.heap.size W w')
    (kc : ∀ W, Calls Tryz.prog 52 #[.string x, .string y] W fun e w' => e = .returned (.tuple #[.int .i64 c, .int .i64 0]) ∧ Below W.heap.size W w')
    (ks : ∀ W, Calls Tryz.prog 53 #[.string x, .string y] W fun e w' => e = .returned (.tuple #[.string s, .int .i64 0]) ∧ Below W.heap.size W w')
    (kr : ∀ W, Calls Tryz.prog 45 #[.bool g1, .string s, .string z] W fun e w' => e = .returned (.tuple #[.agg #[.bool r, .string n, .string d], .int .i64 E]) ∧ Below W.heap.size W w') :
    Calls Tryz.prog 19 #[.agg #[.bool g1, .string n1, .string d1], .agg #[.bool g2, .string n2, .string d2]] w fun e w' => e = .returned (.tuple #[.agg #[.bool r, .string n, .string d], .int .i64 E]) ∧ Below w.heap.size w w' := by
  have q0 := Lib.hid (TwoBoxes.new w g1 g2 n1 d1 n2 d2)
  have hB0 := Lib.hid (twoW_below w g1 g2 n1 d1 n2 d2)
  replace v1 := Lib.hid v1
  replace v2 := Lib.hid v2
  replace l1 := Lib.hid l1
  replace l2 := Lib.hid l2
  replace mx := Lib.hid mx
  replace my := Lib.hid my
  replace mz := Lib.hid mz
  replace kc := Lib.hid kc
  replace ks := Lib.hid ks
  replace kr := Lib.hid kr
  go_enter Tryz.func19, Tryz.ntmps19
  go_wp2_with fail
  refine (v1.out _).mono ?_
  rintro e w1 ⟨rfl, hb⟩
  have q1 := q0.out.below hb
  have hB1 := Lib.hid (hB0.out.trans (hb.mono hB0.out.size))
  clear hb
  obtain ⟨a1, a2, a3, a4, a5, a6⟩ := q1.1.facts
  obtain ⟨b1, b2, b3, b4, b5, b6⟩ := q1.2.1.facts
  obtain ⟨c1, c2, c3, c4, c5, c6⟩ := q1.2.2.facts
  have c7 := q1.2.2.lt
  replace q1 := Lib.hid q1
  go_wp2_with fail
  refine (v2.out _).mono ?_
  rintro e w2 ⟨rfl, hb⟩
  have q2 := q1.out.below hb
  have hB2 := Lib.hid (hB1.out.trans (hb.mono hB1.out.size))
  clear a1 a2 a3 a4 a5 a6 b1 b2 b3 b4 b5 b6 c1 c2 c3 c4 c5 c6 c7
  clear hb
  obtain ⟨a1, a2, a3, a4, a5, a6⟩ := q2.1.facts
  obtain ⟨b1, b2, b3, b4, b5, b6⟩ := q2.2.1.facts
  obtain ⟨c1, c2, c3, c4, c5, c6⟩ := q2.2.2.facts
  have c7 := q2.2.2.lt
  replace q2 := Lib.hid q2
  go_wp2_with fail
  refine (l1.out _).mono ?_
  rintro e w3 ⟨rfl, hb⟩
  have q3 := q2.out.below hb
  have hB3 := Lib.hid (hB2.out.trans (hb.mono hB2.out.size))
  clear a1 a2 a3 a4 a5 a6 b1 b2 b3 b4 b5 b6 c1 c2 c3 c4 c5 c6 c7
  clear hb
  obtain ⟨a1, a2, a3, a4, a5, a6⟩ := q3.1.facts
  obtain ⟨b1, b2, b3, b4, b5, b6⟩ := q3.2.1.facts
  obtain ⟨c1, c2, c3, c4, c5, c6⟩ := q3.2.2.facts
  have c7 := q3.2.2.lt
  replace q3 := Lib.hid q3
  go_wp2_with fail
  refine (l2.out _).mono ?_
  rintro e w4 ⟨rfl, hb⟩
  have q4 := q3.out.below hb
  have hB4 := Lib.hid (hB3.out.trans (hb.mono hB3.out.size))
  clear a1 a2 a3 a4 a5 a6 b1 b2 b3 b4 b5 b6 c1 c2 c3 c4 c5 c6 c7
  clear hb
  obtain ⟨a1, a2, a3, a4, a5, a6⟩ := q4.1.facts
  obtain ⟨b1, b2, b3, b4, b5, b6⟩ := q4.2.1.facts
  obtain ⟨c1, c2, c3, c4, c5, c6⟩ := q4.2.2.facts
  have c7 := q4.2.2.lt
  replace q4 := Lib.hid q4
  go_wp2_with fail
  refine (mx.out _).mono ?_
  rintro e w5 ⟨rfl, hb⟩
  have q5 := q4.out.below hb
  have hB5 := Lib.hid (hB4.out.trans (hb.mono hB4.out.size))
  clear a1 a2 a3 a4 a5 a6 b1 b2 b3 b4 b5 b6 c1 c2 c3 c4 c5 c6 c7
  clear hb
  obtain ⟨a1, a2, a3, a4, a5, a6⟩ := q5.1.facts
  obtain ⟨b1, b2, b3, b4, b5, b6⟩ := q5.2.1.facts
  obtain ⟨c1, c2, c3, c4, c5, c6⟩ := q5.2.2.facts
  have c7 := q5.2.2.lt
  replace q5 := Lib.hid q5
  go_wp2_with fail
  refine (my.out _).mono ?_
  rintro e w6 ⟨rfl, hb⟩
  have q6 := q5.out.below hb
  have hB6 := Lib.hid (hB5.out.trans (hb.mono hB5.out.size))
  clear a1 a2 a3 a4 a5 a6 b1 b2 b3 b4 b5 b6 c1 c2 c3 c4 c5 c6 c7
  clear hb
  obtain ⟨a1, a2, a3, a4, a5, a6⟩ := q6.1.facts
  obtain ⟨b1, b2, b3, b4, b5, b6⟩ := q6.2.1.facts
  obtain ⟨c1, c2, c3, c4, c5, c6⟩ := q6.2.2.facts
  have c7 := q6.2.2.lt
  replace q6 := Lib.hid q6
  go_wp2_with fail
  refine (mz.out _).mono ?_
  rintro e w7 ⟨rfl, hb⟩
  have q7 := q6.out.below hb
  have hB7 := Lib.hid (hB6.out.trans (hb.mono hB6.out.size))
  clear a1 a2 a3 a4 a5 a6 b1 b2 b3 b4 b5 b6 c1 c2 c3 c4 c5 c6 c7
  clear hb
  obtain ⟨a1, a2, a3, a4, a5, a6⟩ := q7.1.facts
  obtain ⟨b1, b2, b3, b4, b5, b6⟩ := q7.2.1.facts
  obtain ⟨c1, c2, c3, c4, c5, c6⟩ := q7.2.2.facts
  have c7 := q7.2.2.lt
  replace q7 := Lib.hid q7
  go_wp2_with fail
  refine (kc.out _).mono ?_
  rintro e w8 ⟨rfl, hb⟩
  have q8 := q7.out.below hb
  have hB8 := Lib.hid (hB7.out.trans (hb.mono hB7.out.size))
  clear a1 a2 a3 a4 a5 a6 b1 b2 b3 b4 b5 b6 c1 c2 c3 c4 c5 c6 c7
  clear hb
  obtain ⟨a1, a2, a3, a4, a5, a6⟩ := q8.1.facts
  obtain ⟨b1, b2, b3, b4, b5, b6⟩ := q8.2.1.facts
  obtain ⟨c1, c2, c3, c4, c5, c6⟩ := q8.2.2.facts
  have c7 := q8.2.2.lt
  replace q8 := Lib.hid q8
  go_wp2_with fail
  refine (ks.out _).mono ?_
  rintro e w9 ⟨rfl, hb⟩
  have q9 := q8.out.below hb
  have hB9 := Lib.hid (hB8.out.trans (hb.mono hB8.out.size))
  clear a1 a2 a3 a4 a5 a6 b1 b2 b3 b4 b5 b6 c1 c2 c3 c4 c5 c6 c7
  clear hb
  obtain ⟨a1, a2, a3, a4, a5, a6⟩ := q9.1.facts
  obtain ⟨b1, b2, b3, b4, b5, b6⟩ := q9.2.1.facts
  obtain ⟨c1, c2, c3, c4, c5, c6⟩ := q9.2.2.facts
  have c7 := q9.2.2.lt
  replace q9 := Lib.hid q9
  go_wp2_with fail
  refine (kr.out _).mono ?_
  rintro e w10 ⟨rfl, hb⟩
  have q10 := q9.out.below hb
  have hB10 := Lib.hid (hB9.out.trans (hb.mono hB9.out.size))
  clear a1 a2 a3 a4 a5 a6 b1 b2 b3 b4 b5 b6 c1 c2 c3 c4 c5 c6 c7
  clear hb
  obtain ⟨a1, a2, a3, a4, a5, a6⟩ := q10.1.facts
  obtain ⟨b1, b2, b3, b4, b5, b6⟩ := q10.2.1.facts
  obtain ⟨c1, c2, c3, c4, c5, c6⟩ := q10.2.2.facts
  have c7 := q10.2.2.lt
  replace q10 := Lib.hid q10
  go_wp2
  refine bodyPost_ret (v := .tuple #[.agg #[.bool r, .string n, .string d], .int .i64 E]) (by simp [results, Tryz.results19, go_sem, c1, c2, c3]) rfl ⟨rfl, ?_⟩
  repeat refine Below.setCell ?_ (by simp only []; omega) _
  exact hB10.out

set_option maxRecDepth 100000 in
set_option maxHeartbeats 2000000 in
theorem RRMul_go (g1 g2 : Bool) (n1 d1 n2 d2 : ByteArray) (x z : ByteArray) (r : Bool) (n d : ByteArray) (E : Int) (w : World)
    (v1 : ∀ W, Calls Tryz.prog 20 #[.agg #[.bool g1, .string n1, .string d1]] W fun e w' => e = .returned (.bool true) ∧ Below W.heap.size W w')
    (v2 : ∀ W, Calls Tryz.prog 20 #[.agg #[.bool g2, .string n2, .string d2]] W fun e w' => e = .returned (.bool true) ∧ Below W.heap.size W w')
    (l1 : ∀ W, Calls Tryz.prog 49 #[.agg #[.bool g1, .string n1, .string d1]] W fun e w' => e = .returned (.bool false) ∧ Below W.heap.size W w')
    (l2 : ∀ W, Calls Tryz.prog 49 #[.agg #[.bool g2, .string n2, .string d2]] W fun e w' => e = .returned (.bool false) ∧ Below W.heap.size W w')
    (mx : ∀ W, Calls Tryz.prog 50 #[.string n1, .string n2] W fun e w' => e = .returned (.tuple #[.string x, .int .i64 0]) ∧ Below W.heap.size W w')
    (mz : ∀ W, Calls Tryz.prog 50 #[.string d1, .string d2] W fun e w' => e = .returned (.tuple #[.string z, .int .i64 0]) ∧ Below W.heap.size W w')
    (kr : ∀ W, Calls Tryz.prog 45 #[.bool (!(g1 == g2)), .string x, .string z] W fun e w' => e = .returned (.tuple #[.agg #[.bool r, .string n, .string d], .int .i64 E]) ∧ Below W.heap.size W w') :
    Calls Tryz.prog 24 #[.agg #[.bool g1, .string n1, .string d1], .agg #[.bool g2, .string n2, .string d2]] w fun e w' => e = .returned (.tuple #[.agg #[.bool r, .string n, .string d], .int .i64 E]) ∧ Below w.heap.size w w' := by
  have q0 := Lib.hid (TwoBoxes.new w g1 g2 n1 d1 n2 d2)
  have hB0 := Lib.hid (twoW_below w g1 g2 n1 d1 n2 d2)
  replace v1 := Lib.hid v1
  replace v2 := Lib.hid v2
  replace l1 := Lib.hid l1
  replace l2 := Lib.hid l2
  replace mx := Lib.hid mx
  replace mz := Lib.hid mz
  replace kr := Lib.hid kr
  go_enter Tryz.func24, Tryz.ntmps24
  go_wp2_with fail
  refine (v1.out _).mono ?_
  rintro e w1 ⟨rfl, hb⟩
  have q1 := q0.out.below hb
  have hB1 := Lib.hid (hB0.out.trans (hb.mono hB0.out.size))
  clear hb
  obtain ⟨a1, a2, a3, a4, a5, a6⟩ := q1.1.facts
  obtain ⟨b1, b2, b3, b4, b5, b6⟩ := q1.2.1.facts
  obtain ⟨c1, c2, c3, c4, c5, c6⟩ := q1.2.2.facts
  have c7 := q1.2.2.lt
  replace q1 := Lib.hid q1
  go_wp2_with fail
  refine (v2.out _).mono ?_
  rintro e w2 ⟨rfl, hb⟩
  have q2 := q1.out.below hb
  have hB2 := Lib.hid (hB1.out.trans (hb.mono hB1.out.size))
  clear a1 a2 a3 a4 a5 a6 b1 b2 b3 b4 b5 b6 c1 c2 c3 c4 c5 c6 c7
  clear hb
  obtain ⟨a1, a2, a3, a4, a5, a6⟩ := q2.1.facts
  obtain ⟨b1, b2, b3, b4, b5, b6⟩ := q2.2.1.facts
  obtain ⟨c1, c2, c3, c4, c5, c6⟩ := q2.2.2.facts
  have c7 := q2.2.2.lt
  replace q2 := Lib.hid q2
  go_wp2_with fail
  refine (l1.out _).mono ?_
  rintro e w3 ⟨rfl, hb⟩
  have q3 := q2.out.below hb
  have hB3 := Lib.hid (hB2.out.trans (hb.mono hB2.out.size))
  clear a1 a2 a3 a4 a5 a6 b1 b2 b3 b4 b5 b6 c1 c2 c3 c4 c5 c6 c7
  clear hb
  obtain ⟨a1, a2, a3, a4, a5, a6⟩ := q3.1.facts
  obtain ⟨b1, b2, b3, b4, b5, b6⟩ := q3.2.1.facts
  obtain ⟨c1, c2, c3, c4, c5, c6⟩ := q3.2.2.facts
  have c7 := q3.2.2.lt
  replace q3 := Lib.hid q3
  go_wp2_with fail
  refine (l2.out _).mono ?_
  rintro e w4 ⟨rfl, hb⟩
  have q4 := q3.out.below hb
  have hB4 := Lib.hid (hB3.out.trans (hb.mono hB3.out.size))
  clear a1 a2 a3 a4 a5 a6 b1 b2 b3 b4 b5 b6 c1 c2 c3 c4 c5 c6 c7
  clear hb
  obtain ⟨a1, a2, a3, a4, a5, a6⟩ := q4.1.facts
  obtain ⟨b1, b2, b3, b4, b5, b6⟩ := q4.2.1.facts
  obtain ⟨c1, c2, c3, c4, c5, c6⟩ := q4.2.2.facts
  have c7 := q4.2.2.lt
  replace q4 := Lib.hid q4
  go_wp2_with fail
  refine (mx.out _).mono ?_
  rintro e w5 ⟨rfl, hb⟩
  have q5 := q4.out.below hb
  have hB5 := Lib.hid (hB4.out.trans (hb.mono hB4.out.size))
  clear a1 a2 a3 a4 a5 a6 b1 b2 b3 b4 b5 b6 c1 c2 c3 c4 c5 c6 c7
  clear hb
  obtain ⟨a1, a2, a3, a4, a5, a6⟩ := q5.1.facts
  obtain ⟨b1, b2, b3, b4, b5, b6⟩ := q5.2.1.facts
  obtain ⟨c1, c2, c3, c4, c5, c6⟩ := q5.2.2.facts
  have c7 := q5.2.2.lt
  replace q5 := Lib.hid q5
  go_wp2_with fail
  refine (mz.out _).mono ?_
  rintro e w6 ⟨rfl, hb⟩
  have q6 := q5.out.below hb
  have hB6 := Lib.hid (hB5.out.trans (hb.mono hB5.out.size))
  clear a1 a2 a3 a4 a5 a6 b1 b2 b3 b4 b5 b6 c1 c2 c3 c4 c5 c6 c7
  clear hb
  obtain ⟨a1, a2, a3, a4, a5, a6⟩ := q6.1.facts
  obtain ⟨b1, b2, b3, b4, b5, b6⟩ := q6.2.1.facts
  obtain ⟨c1, c2, c3, c4, c5, c6⟩ := q6.2.2.facts
  have c7 := q6.2.2.lt
  replace q6 := Lib.hid q6
  go_wp2_with fail
  refine (kr.out _).mono ?_
  rintro e w7 ⟨rfl, hb⟩
  have q7 := q6.out.below hb
  have hB7 := Lib.hid (hB6.out.trans (hb.mono hB6.out.size))
  clear a1 a2 a3 a4 a5 a6 b1 b2 b3 b4 b5 b6 c1 c2 c3 c4 c5 c6 c7
  clear hb
  obtain ⟨a1, a2, a3, a4, a5, a6⟩ := q7.1.facts
  obtain ⟨b1, b2, b3, b4, b5, b6⟩ := q7.2.1.facts
  obtain ⟨c1, c2, c3, c4, c5, c6⟩ := q7.2.2.facts
  have c7 := q7.2.2.lt
  replace q7 := Lib.hid q7
  go_wp2
  refine bodyPost_ret (v := .tuple #[.agg #[.bool r, .string n, .string d], .int .i64 E]) (by simp [results, Tryz.results24, go_sem, c1, c2, c3]) rfl ⟨rfl, ?_⟩
  repeat refine Below.setCell ?_ (by simp only []; omega) _
  exact hB7.out

set_option maxRecDepth 100000 in
set_option maxHeartbeats 2000000 in
theorem RRDiv_zero (g1 g2 : Bool) (n1 d1 n2 d2 : ByteArray) (h0 : (n2.toList == [48]) = true) (w : World)
    (v1 : ∀ W, Calls Tryz.prog 20 #[.agg #[.bool g1, .string n1, .string d1]] W fun e w' => e = .returned (.bool true) ∧ Below W.heap.size W w')
    (v2 : ∀ W, Calls Tryz.prog 20 #[.agg #[.bool g2, .string n2, .string d2]] W fun e w' => e = .returned (.bool true) ∧ Below W.heap.size W w') :
    Calls Tryz.prog 26 #[.agg #[.bool g1, .string n1, .string d1], .agg #[.bool g2, .string n2, .string d2]] w fun e w' => e = .returned (.tuple #[.agg #[.bool false, .string ⟨#[]⟩, .string ⟨#[]⟩], .int .i64 15]) ∧ Below w.heap.size w w' := by
  have q0 := Lib.hid (TwoBoxes.new w g1 g2 n1 d1 n2 d2)
  have hB0 := Lib.hid (twoW_below w g1 g2 n1 d1 n2 d2)
  replace v1 := Lib.hid v1
  replace v2 := Lib.hid v2
  go_enter Tryz.func26, Tryz.ntmps26
  go_wp2_with fail
  refine (v1.out _).mono ?_
  rintro e w1 ⟨rfl, hb⟩
  have q1 := q0.out.below hb
  have hB1 := Lib.hid (hB0.out.trans (hb.mono hB0.out.size))
  clear hb
  obtain ⟨a1, a2, a3, a4, a5, a6⟩ := q1.1.facts
  obtain ⟨b1, b2, b3, b4, b5, b6⟩ := q1.2.1.facts
  obtain ⟨c1, c2, c3, c4, c5, c6⟩ := q1.2.2.facts
  have c7 := q1.2.2.lt
  replace q1 := Lib.hid q1
  go_wp2_with fail
  refine (v2.out _).mono ?_
  rintro e w2 ⟨rfl, hb⟩
  have q2 := q1.out.below hb
  have hB2 := Lib.hid (hB1.out.trans (hb.mono hB1.out.size))
  clear a1 a2 a3 a4 a5 a6 b1 b2 b3 b4 b5 b6 c1 c2 c3 c4 c5 c6 c7
  clear hb
  obtain ⟨a1, a2, a3, a4, a5, a6⟩ := q2.1.facts
  obtain ⟨b1, b2, b3, b4, b5, b6⟩ := q2.2.1.facts
  obtain ⟨c1, c2, c3, c4, c5, c6⟩ := q2.2.2.facts
  have c7 := q2.2.2.lt
  replace q2 := Lib.hid q2
  go_wp2
  refine bodyPost_ret (v := .tuple #[.agg #[.bool false, .string ⟨#[]⟩, .string ⟨#[]⟩], .int .i64 15]) (by simp [results, Tryz.results26, go_sem, c1, c2, c3]) rfl ⟨rfl, ?_⟩
  repeat refine Below.setCell ?_ (by simp only []; omega) _
  exact hB2.out

set_option maxRecDepth 100000 in
set_option maxHeartbeats 2000000 in
theorem RRDiv_go (g1 g2 : Bool) (n1 d1 n2 d2 : ByteArray) (r : Bool) (n d : ByteArray) (E : Int) (h0 : (n2.toList == [48]) = false) (w : World)
    (v1 : ∀ W, Calls Tryz.prog 20 #[.agg #[.bool g1, .string n1, .string d1]] W fun e w' => e = .returned (.bool true) ∧ Below W.heap.size W w')
    (v2 : ∀ W, Calls Tryz.prog 20 #[.agg #[.bool g2, .string n2, .string d2]] W fun e w' => e = .returned (.bool true) ∧ Below W.heap.size W w')
    (km : ∀ W, Calls Tryz.prog 24 #[.agg #[.bool g1, .string n1, .string d1], .agg #[.bool g2, .string d2, .string n2]] W fun e w' => e = .returned (.tuple #[.agg #[.bool r, .string n, .string d], .int .i64 E]) ∧ Below W.heap.size W w') :
    Calls Tryz.prog 26 #[.agg #[.bool g1, .string n1, .string d1], .agg #[.bool g2, .string n2, .string d2]] w fun e w' => e = .returned (.tuple #[.agg #[.bool r, .string n, .string d], .int .i64 E]) ∧ Below w.heap.size w w' := by
  have q0 := Lib.hid (TwoBoxes.new w g1 g2 n1 d1 n2 d2)
  have hB0 := Lib.hid (twoW_below w g1 g2 n1 d1 n2 d2)
  replace v1 := Lib.hid v1
  replace v2 := Lib.hid v2
  replace km := Lib.hid km
  go_enter Tryz.func26, Tryz.ntmps26
  go_wp2_with fail
  refine (v1.out _).mono ?_
  rintro e w1 ⟨rfl, hb⟩
  have q1 := q0.out.below hb
  have hB1 := Lib.hid (hB0.out.trans (hb.mono hB0.out.size))
  clear hb
  obtain ⟨a1, a2, a3, a4, a5, a6⟩ := q1.1.facts
  obtain ⟨b1, b2, b3, b4, b5, b6⟩ := q1.2.1.facts
  obtain ⟨c1, c2, c3, c4, c5, c6⟩ := q1.2.2.facts
  have c7 := q1.2.2.lt
  replace q1 := Lib.hid q1
  go_wp2_with fail
  refine (v2.out _).mono ?_
  rintro e w2 ⟨rfl, hb⟩
  have q2 := q1.out.below hb
  have hB2 := Lib.hid (hB1.out.trans (hb.mono hB1.out.size))
  clear a1 a2 a3 a4 a5 a6 b1 b2 b3 b4 b5 b6 c1 c2 c3 c4 c5 c6 c7
  clear hb
  obtain ⟨a1, a2, a3, a4, a5, a6⟩ := q2.1.facts
  obtain ⟨b1, b2, b3, b4, b5, b6⟩ := q2.2.1.facts
  obtain ⟨c1, c2, c3, c4, c5, c6⟩ := q2.2.2.facts
  have c7 := q2.2.2.lt
  replace q2 := Lib.hid q2
  go_wp2_with fail
  refine (km.out _).mono ?_
  rintro e w3 ⟨rfl, hb⟩
  have q3 := q2.out.below hb
  have hB3 := Lib.hid (hB2.out.trans (hb.mono hB2.out.size))
  clear a1 a2 a3 a4 a5 a6 b1 b2 b3 b4 b5 b6 c1 c2 c3 c4 c5 c6 c7
  clear hb
  obtain ⟨a1, a2, a3, a4, a5, a6⟩ := q3.1.facts
  obtain ⟨b1, b2, b3, b4, b5, b6⟩ := q3.2.1.facts
  obtain ⟨c1, c2, c3, c4, c5, c6⟩ := q3.2.2.facts
  have c7 := q3.2.2.lt
  replace q3 := Lib.hid q3
  go_wp2
  refine bodyPost_ret (v := .tuple #[.agg #[.bool r, .string n, .string d], .int .i64 E]) (by simp [results, Tryz.results26, go_sem, c1, c2, c3]) rfl ⟨rfl, ?_⟩
  repeat refine Below.setCell ?_ (by simp only []; omega) _
  exact hB3.out

set_option maxRecDepth 100000 in
set_option maxHeartbeats 2000000 in
theorem RRSub_go (g1 g2 : Bool) (n1 d1 n2 d2 : ByteArray) (g3 r : Bool) (n d : ByteArray) (E : Int) (w : World)
    (v1 : ∀ W, Calls Tryz.prog 20 #[.agg #[.bool g1, .string n1, .string d1]] W fun e w' => e = .returned (.bool true) ∧ Below W.heap.size W w')
    (v2 : ∀ W, Calls Tryz.prog 20 #[.agg #[.bool g2, .string n2, .string d2]] W fun e w' => e = .returned (.bool true) ∧ Below W.heap.size W w')
    (ho : ∀ W, Calls Tryz.prog 58 #[.agg #[.bool g2, .string n2, .string d2]] W fun e w' => e = .returned (.agg #[.bool g3, .string n2, .string d2]) ∧ Below W.heap.size W w')
    (hc : ∀ W, Calls Tryz.prog 19 #[.agg #[.bool g1, .string n1, .string d1], .agg #[.bool g3, .string n2, .string d2]] W fun e w' => e = .returned (.tuple #[.agg #[.bool r, .string n, .string d], .int .i64 E]) ∧ Below W.heap.size W w') :
    Calls Tryz.prog 22 #[.agg #[.bool g1, .string n1, .string d1], .agg #[.bool g2, .string n2, .string d2]] w fun e w' => e = .returned (.tuple #[.agg #[.bool r, .string n, .string d], .int .i64 E]) ∧ Below w.heap.size w w' := by
  have q0 := Lib.hid (TwoBoxes.new w g1 g2 n1 d1 n2 d2)
  have hB0 := Lib.hid (twoW_below w g1 g2 n1 d1 n2 d2)
  replace v1 := Lib.hid v1
  replace v2 := Lib.hid v2
  replace ho := Lib.hid ho
  replace hc := Lib.hid hc
  go_enter Tryz.func22, Tryz.ntmps22
  go_wp2_with fail
  refine (v1.out _).mono ?_
  rintro e w1 ⟨rfl, hb⟩
  have q1 := q0.out.below hb
  have hB1 := Lib.hid (hB0.out.trans (hb.mono hB0.out.size))
  clear hb
  obtain ⟨a1, a2, a3, a4, a5, a6⟩ := q1.1.facts
  obtain ⟨b1, b2, b3, b4, b5, b6⟩ := q1.2.1.facts
  obtain ⟨c1, c2, c3, c4, c5, c6⟩ := q1.2.2.facts
  have c7 := q1.2.2.lt
  replace q1 := Lib.hid q1
  go_wp2_with fail
  refine (v2.out _).mono ?_
  rintro e w2 ⟨rfl, hb⟩
  have q2 := q1.out.below hb
  have hB2 := Lib.hid (hB1.out.trans (hb.mono hB1.out.size))
  clear a1 a2 a3 a4 a5 a6 b1 b2 b3 b4 b5 b6 c1 c2 c3 c4 c5 c6 c7
  clear hb
  obtain ⟨a1, a2, a3, a4, a5, a6⟩ := q2.1.facts
  obtain ⟨b1, b2, b3, b4, b5, b6⟩ := q2.2.1.facts
  obtain ⟨c1, c2, c3, c4, c5, c6⟩ := q2.2.2.facts
  have c7 := q2.2.2.lt
  replace q2 := Lib.hid q2
  clear a1 a2 a3 a4 a5 a6 b1 b2 b3 b4 b5 b6 c1 c2 c3 c4 c5 c6 c7
  go_wp2_with fail
  have q2d : Hid (TwoBoxes w2.drew w.heap.size g1 g2 n1 d1 n2 d2) := q2.out
  have hB2d : Hid (Below w.heap.size w w2.drew) := hB2.out.drew
  obtain ⟨a1, a2, a3, b1, b2, b3⟩ := q2.out.six
  go_region_held3 (fun w' => w'.cell? ⟨w.heap.size, 0, none⟩ = some (.bool g1) ∧ w'.cell? ⟨w.heap.size, 1, none⟩ = some (.string n1) ∧ w'.cell? ⟨w.heap.size, 2, none⟩ = some (.string d1) ∧ w'.cell? ⟨w.heap.size + 1, 0, none⟩ = some (.bool g2) ∧ w'.cell? ⟨w.heap.size + 1, 1, none⟩ = some (.string n2) ∧ w'.cell? ⟨w.heap.size + 1, 2, none⟩ = some (.string d2)) (first | (with_reducible exact q2.out.six) | (with_reducible exact q2d.out.six) | (with_reducible exact q3.out.six) | (with_reducible exact q4.out.six) | (with_reducible exact q4.out.six_set _ _ _) | go_keep)
    (first
      | (go_at_call 58; refine (ho.out _).mono ?_; rintro e w3 ⟨rfl, hb3⟩; have q3 := Lib.hid (q2d.out.below hb3); have hB3 := Lib.hid (hB2d.out.trans (hb3.mono hB2d.out.size)); clear hb3)
      | (go_at_call 19; refine (hc.out _).mono ?_; rintro e w4 ⟨rfl, hb4⟩; have q4 := Lib.hid (q3.out.below hb4); obtain ⟨c1, c2, c3, c4, c5, c6⟩ := q4.out.2.2.facts; have hB4 := Lib.hid (hB3.out.trans (hb4.mono hB3.out.size)); clear hb4))
  go_wp2
  refine bodyPost_ret (v := .tuple #[.agg #[.bool r, .string n, .string d], .int .i64 E]) (by simp [results, Tryz.results22, go_sem, c1, c2, c3]) rfl ⟨rfl, ?_⟩
  repeat refine Below.setCell ?_ (by simp only []; omega) _
  exact hB4.out

set_option maxRecDepth 100000 in
set_option maxHeartbeats 2000000 in
theorem RRCompare_w (g1 g2 : Bool) (n1 d1 n2 d2 : ByteArray) (r : Bool) (n d : ByteArray) (E c f : Int) (w : World)
    (hs : ∀ W, Calls Tryz.prog 22 #[.agg #[.bool g1, .string n1, .string d1], .agg #[.bool g2, .string n2, .string d2]] W fun e w' => e = .returned (.tuple #[.agg #[.bool r, .string n, .string d], .int .i64 E]) ∧ Below W.heap.size W w')
    (hk : (E ≠ 0 ∧ c = 0 ∧ f = E) ∨ (E = 0 ∧ (n.toList == [48]) = true ∧ c = 0 ∧ f = 0) ∨ (E = 0 ∧ (n.toList == [48]) = false ∧ r = true ∧ c = -1 ∧ f = 0) ∨ (E = 0 ∧ (n.toList == [48]) = false ∧ r = false ∧ c = 1 ∧ f = 0)) :
    Calls Tryz.prog 27 #[.agg #[.bool g1, .string n1, .string d1], .agg #[.bool g2, .string n2, .string d2]] w fun e w' => e = .returned (.tuple #[.int .i64 c, .int .i64 f]) ∧ Below w.heap.size w w' := by
  have hBE : Hid (Below w.heap.size w ((w.alloc (.cells #[.bool g1, .string n1, .string d1] 23)).alloc (.cells #[.bool g2, .string n2, .string d2] 23))) := ((Below.refl _ w).alloc (Nat.le_refl _) _).alloc (by simp) _
  replace hs := Lib.hid hs
  rcases hk with ⟨h1, rfl, rfl⟩ | ⟨rfl, h1, rfl, rfl⟩ | ⟨rfl, h1, rfl, rfl, rfl⟩ | ⟨rfl, h1, rfl, rfl, rfl⟩
  rotate_left
  all_goals
    go_enter Tryz.func27, Tryz.ntmps27
    go_wp2_with fail
    refine (hs.out _).mono ?_
    rintro e w1 ⟨rfl, hb1⟩
    have hB1 := Lib.hid (hBE.out.trans (hb1.mono hBE.out.size))
    clear hb1
    go_wp2
    go_ret2
    exact ⟨rfl, hB1.out.alloc hB1.out.size _⟩

theorem inv_qv {q : Rat} (h : q ≠ 0) : qv q⁻¹ = .agg #[.bool (decide (q.num < 0)), .string (T (some q.den)), .string (T (some q.num.natAbs))] := by
  have hn := num_ne_zero h
  unfold qv
  rw [Rat.num_inv, Rat.den_inv, if_neg hn]
  have hd : 0 < q.den := q.den_pos
  have e1 : decide (q.num.sign * (q.den : Int) < 0) = decide (q.num < 0) := by
    refine decide_eq_decide.2 ?_
    rcases Int.lt_or_gt_of_ne hn with h1 | h1
    · rw [Int.sign_eq_neg_one_of_neg h1]
      omega
    · rw [Int.sign_eq_one_of_pos h1]
      omega
  have e2 : (q.num.sign * (q.den : Int)).natAbs = q.den := by
    rw [Int.natAbs_mul, Int.natAbs_sign_of_ne_zero hn, Nat.one_mul, Int.natAbs_natCast]
  rw [e1, e2]
theorem inv_size {q : Rat} (h : q ≠ 0) : q⁻¹.num.natAbs = q.den ∧ q⁻¹.den = q.num.natAbs := by
  have hn := num_ne_zero h
  rw [Rat.num_inv, Rat.den_inv, if_neg hn]
  exact ⟨by rw [Int.natAbs_mul, Int.natAbs_sign_of_ne_zero hn, Nat.one_mul, Int.natAbs_natCast], rfl⟩

theorem vq (q : Rat) (h : OkQ q) (W : World) : Calls Tryz.prog 20 #[.agg #[.bool (decide (q.num < 0)), .string (T (some q.num.natAbs)), .string (T (some q.den))]] W fun e w' => e = .returned (.bool true) ∧ Below W.heap.size W w' := by
  have hv := valid_qv h
  have hz := size_of_valid hv
  have := RRValid_any (decide (q.num < 0)) (T (some q.num.natAbs)) (T (some q.den)) W (by omega) (by omega)
  rwa [hv] at this
theorem lq (q : Rat) (h : ShortQ q) (W : World) : Calls Tryz.prog 49 #[.agg #[.bool (decide (q.num < 0)), .string (T (some q.num.natAbs)), .string (T (some q.den))]] W fun e w' => e = .returned (.bool false) ∧ Below W.heap.size W w' :=
  RRlong_no _ _ _ W (short_sizes h).1 (short_sizes h).2
theorem lqn (q : Rat) (h : ¬ ShortQ q) (W : World) : Calls Tryz.prog 49 #[.agg #[.bool (decide (q.num < 0)), .string (T (some q.num.natAbs)), .string (T (some q.den))]] W fun e w' => e = .returned (.bool true) ∧ Below W.heap.size W w' :=
  RRlong_yes _ _ _ W (by
    rcases Nat.lt_or_ge 140 (T (some q.num.natAbs)).size with h1 | h1
    · exact .inl h1
    · rcases Nat.lt_or_ge 140 (T (some q.den)).size with h2 | h2
      · exact .inr h2
      · exact absurd (short_of_sizes h1 h2) h)
theorem RRAdd_bad (g1 g2 : Bool) (n1 d1 n2 d2 : ByteArray) (w : World) (s1 : n1.size ≤ 140737488355328) (s2 : d1.size ≤ 140737488355328) (s3 : n2.size ≤ 140737488355328) (s4 : d2.size ≤ 140737488355328) (hb : validB g1 n1 d1 = false ∨ validB g2 n2 d2 = false) :
    Calls Tryz.prog 19 #[.agg #[.bool g1, .string n1, .string d1], .agg #[.bool g2, .string n2, .string d2]] w fun e w' => e = .returned (.tuple #[zv, .int .i64 1]) ∧ Below w.heap.size w w' := by
  have v1 := fun W => RRValid_any g1 n1 d1 W s1 s2
  have v2 := fun W => RRValid_any g2 n2 d2 W s3 s4
  cases h1 : validB g1 n1 d1 with
  | false =>
    rw [h1] at v1
    exact RRAdd_bad1 g1 g2 n1 d1 n2 d2 w v1
  | true =>
    have h2 : validB g2 n2 d2 = false := by rcases hb with h | h; (· rw [h1] at h; cases h); (· exact h)
    rw [h1] at v1
    rw [h2] at v2
    exact RRAdd_bad2 g1 g2 n1 d1 n2 d2 w v1 v2

theorem RRSub_bad (g1 g2 : Bool) (n1 d1 n2 d2 : ByteArray) (w : World) (s1 : n1.size ≤ 140737488355328) (s2 : d1.size ≤ 140737488355328) (s3 : n2.size ≤ 140737488355328) (s4 : d2.size ≤ 140737488355328) (hb : validB g1 n1 d1 = false ∨ validB g2 n2 d2 = false) :
    Calls Tryz.prog 22 #[.agg #[.bool g1, .string n1, .string d1], .agg #[.bool g2, .string n2, .string d2]] w fun e w' => e = .returned (.tuple #[zv, .int .i64 1]) ∧ Below w.heap.size w w' := by
  have v1 := fun W => RRValid_any g1 n1 d1 W s1 s2
  have v2 := fun W => RRValid_any g2 n2 d2 W s3 s4
  cases h1 : validB g1 n1 d1 with
  | false =>
    rw [h1] at v1
    exact RRSub_bad1 g1 g2 n1 d1 n2 d2 w v1
  | true =>
    have h2 : validB g2 n2 d2 = false := by rcases hb with h | h; (· rw [h1] at h; cases h); (· exact h)
    rw [h1] at v1
    rw [h2] at v2
    exact RRSub_bad2 g1 g2 n1 d1 n2 d2 w v1 v2

theorem RRMul_bad (g1 g2 : Bool) (n1 d1 n2 d2 : ByteArray) (w : World) (s1 : n1.size ≤ 140737488355328) (s2 : d1.size ≤ 140737488355328) (s3 : n2.size ≤ 140737488355328) (s4 : d2.size ≤ 140737488355328) (hb : validB g1 n1 d1 = false ∨ validB g2 n2 d2 = false) :
    Calls Tryz.prog 24 #[.agg #[.bool g1, .string n1, .string d1], .agg #[.bool g2, .string n2, .string d2]] w fun e w' => e = .returned (.tuple #[zv, .int .i64 1]) ∧ Below w.heap.size w w' := by
  have v1 := fun W => RRValid_any g1 n1 d1 W s1 s2
  have v2 := fun W => RRValid_any g2 n2 d2 W s3 s4
  cases h1 : validB g1 n1 d1 with
  | false =>
    rw [h1] at v1
    exact RRMul_bad1 g1 g2 n1 d1 n2 d2 w v1
  | true =>
    have h2 : validB g2 n2 d2 = false := by rcases hb with h | h; (· rw [h1] at h; cases h); (· exact h)
    rw [h1] at v1
    rw [h2] at v2
    exact RRMul_bad2 g1 g2 n1 d1 n2 d2 w v1 v2

theorem RRDiv_bad (g1 g2 : Bool) (n1 d1 n2 d2 : ByteArray) (w : World) (s1 : n1.size ≤ 140737488355328) (s2 : d1.size ≤ 140737488355328) (s3 : n2.size ≤ 140737488355328) (s4 : d2.size ≤ 140737488355328) (hb : validB g1 n1 d1 = false ∨ validB g2 n2 d2 = false) :
    Calls Tryz.prog 26 #[.agg #[.bool g1, .string n1, .string d1], .agg #[.bool g2, .string n2, .string d2]] w fun e w' => e = .returned (.tuple #[zv, .int .i64 1]) ∧ Below w.heap.size w w' := by
  have v1 := fun W => RRValid_any g1 n1 d1 W s1 s2
  have v2 := fun W => RRValid_any g2 n2 d2 W s3 s4
  cases h1 : validB g1 n1 d1 with
  | false =>
    rw [h1] at v1
    exact RRDiv_bad1 g1 g2 n1 d1 n2 d2 w v1
  | true =>
    have h2 : validB g2 n2 d2 = false := by rcases hb with h | h; (· rw [h1] at h; cases h); (· exact h)
    rw [h1] at v1
    rw [h2] at v2
    exact RRDiv_bad2 g1 g2 n1 d1 n2 d2 w v1 v2

theorem RRAdd_long (p q : Rat) (hp : OkQ p) (hq : OkQ q) (hl : ¬ (ShortQ p ∧ ShortQ q)) (w : World) :
    Calls Tryz.prog 19 #[qv p, qv q] w fun e w' => e = .returned (.tuple #[zv, .int .i64 2]) ∧ Below w.heap.size w w' := by
  by_cases h1 : ShortQ p
  · exact RRAdd_long2 _ _ _ _ _ _ w (vq p hp) (vq q hq) (lq p h1) (lqn q fun h => hl ⟨h1, h⟩)
  · exact RRAdd_long1 _ _ _ _ _ _ w (vq p hp) (vq q hq) (lqn p h1)

theorem RRMul_long (p q : Rat) (hp : OkQ p) (hq : OkQ q) (hl : ¬ (ShortQ p ∧ ShortQ q)) (w : World) :
    Calls Tryz.prog 24 #[qv p, qv q] w fun e w' => e = .returned (.tuple #[zv, .int .i64 2]) ∧ Below w.heap.size w w' := by
  by_cases h1 : ShortQ p
  · exact RRMul_long2 _ _ _ _ _ _ w (vq p hp) (vq q hq) (lq p h1) (lqn q fun h => hl ⟨h1, h⟩)
  · exact RRMul_long1 _ _ _ _ _ _ w (vq p hp) (vq q hq) (lqn p h1)

theorem RRAdd_short (p q : Rat) (hp : ShortQ p) (hq : ShortQ q) (w : World) :
    Calls Tryz.prog 19 #[qv p, qv q] w fun e w' => e = .returned (.tuple #[qv (p + q), .int .i64 0]) ∧ Below w.heap.size w w' := by
  have h1 := L1_mul hp.1 hq.2
  have h2 := L1_mul hq.1 hp.2
  have h3 := L1_mul hp.2 hq.2
  have h4 := L1_sq
  have hbd : p.den * q.den ≠ 0 := Nat.mul_ne_zero p.den_nz q.den_nz
  have mx := fun W => rmul p.num.natAbs q.den W (L1_lim hp.1) (L1_lim hq.2) (by omega)
  have my := fun W => rmul q.num.natAbs p.den W (L1_lim hq.1) (L1_lim hp.2) (by omega)
  have mz := fun W => rmul p.den q.den W (L1_lim hp.2) (L1_lim hq.2) (by omega)
  by_cases hg : decide (p.num < 0) = decide (q.num < 0)
  · have ks := fun W => radd (p.num.natAbs * q.den) (q.num.natAbs * p.den) W (by omega) (by omega) (by omega)
    have kr := fun W => RRreduce_any (decide (p.num < 0)) (p.num.natAbs * q.den + q.num.natAbs * p.den) (p.den * q.den) W (by omega) (by omega) hbd
    rw [sum_same rfl hg rfl rfl, add_mk] at kr
    have v2 := vq q hq.ok
    have l2 := lq q hq
    have e : qv q = .agg #[.bool (decide (p.num < 0)), .string (T (some q.num.natAbs)), .string (T (some q.den))] := by rw [hg]; rfl
    rw [← hg] at v2 l2
    rw [e]
    exact RRAdd_same _ _ _ _ _ _ _ _ _ _ _ _ _ w (vq p hp.ok) v2 (lq p hp) l2 mx my mz ks kr
  · have hne : (decide (p.num < 0) == decide (q.num < 0)) = false := by rw [beq_eq_false_iff_ne]; exact hg
    have kc := fun W => rcmp (p.num.natAbs * q.den) (q.num.natAbs * p.den) W (by omega) (by omega)
    rcases Nat.lt_or_ge (p.num.natAbs * q.den) (q.num.natAbs * p.den) with hl | hl
    · have ks := fun W => rsub (q.num.natAbs * p.den) (p.num.natAbs * q.den) W (by omega) (by omega) (by omega)
      have kr := fun W => RRreduce_any (decide (q.num < 0)) (q.num.natAbs * p.den - p.num.natAbs * q.den) (p.den * q.den) W (by omega) (by omega) hbd
      rw [sum_less rfl rfl rfl rfl hg hl, add_mk] at kr
      exact RRAdd_less _ _ _ _ _ _ _ _ _ _ _ _ _ _ _ (by rw [cmpN_lt hl]; omega) hne w (vq p hp.ok) (vq q hq.ok) (lq p hp) (lq q hq) mx my mz kc ks kr
    · have ks := fun W => rsub (p.num.natAbs * q.den) (q.num.natAbs * p.den) W (by omega) (by omega) hl
      have kr := fun W => RRreduce_any (decide (p.num < 0)) (p.num.natAbs * q.den - q.num.natAbs * p.den) (p.den * q.den) W (by omega) (by omega) hbd
      rw [sum_more rfl rfl rfl rfl hg hl, add_mk] at kr
      obtain ⟨c, hc, hc0, _⟩ := cmpN_ge hl
      exact RRAdd_more _ _ _ _ _ _ _ _ _ _ _ _ _ _ _ (by rw [← hc]; exact hc0) hne w (vq p hp.ok) (vq q hq.ok) (lq p hp) (lq q hq) mx my mz kc ks kr

theorem RRMul_short (p q : Rat) (hp : ShortQ p) (hq : ShortQ q) (w : World) :
    Calls Tryz.prog 24 #[qv p, qv q] w fun e w' => e = .returned (.tuple #[qv (p * q), .int .i64 0]) ∧ Below w.heap.size w w' := by
  have h1 := L1_mul hp.1 hq.1
  have h3 := L1_mul hp.2 hq.2
  have h4 := L1_sq
  have hbd : p.den * q.den ≠ 0 := Nat.mul_ne_zero p.den_nz q.den_nz
  have mx := fun W => rmul p.num.natAbs q.num.natAbs W (L1_lim hp.1) (L1_lim hq.1) (by omega)
  have mz := fun W => rmul p.den q.den W (L1_lim hp.2) (L1_lim hq.2) (by omega)
  have kr := fun W => RRreduce_any (!(decide (p.num < 0) == decide (q.num < 0))) (p.num.natAbs * q.num.natAbs) (p.den * q.den) W (by omega) (by omega) hbd
  have e := mul_mk p q
  rw [show (decide (p.num < 0) != decide (q.num < 0)) = !(decide (p.num < 0) == decide (q.num < 0)) from rfl] at e
  rw [e] at kr
  exact RRMul_go _ _ _ _ _ _ _ _ _ _ _ _ w (vq p hp.ok) (vq q hq.ok) (lq p hp) (lq q hq) mx mz kr

theorem neg_agg (q : Rat) : qv (-q) = .agg #[.bool (decide ((-q).num < 0)), .string (T (some q.num.natAbs)), .string (T (some q.den))] := by
  unfold qv
  rw [show (-q).num.natAbs = q.num.natAbs from Int.natAbs_neg _]
  rfl
theorem RRSub_short (p q : Rat) (hp : ShortQ p) (hq : ShortQ q) (w : World) :
    Calls Tryz.prog 22 #[qv p, qv q] w fun e w' => e = .returned (.tuple #[qv (p - q), .int .i64 0]) ∧ Below w.heap.size w w' := by
  have hc := fun W => RRAdd_short p (-q) hp hq.neg W
  rw [← Rat.sub_eq_add_neg] at hc
  have ho := fun W => RRNeg_q q W
  rw [neg_agg] at hc ho
  exact RRSub_go _ _ _ _ _ _ _ _ _ _ _ w (vq p hp.ok) (vq q hq.ok) ho hc
theorem OkQ.neg {q : Rat} (h : OkQ q) : OkQ (-q) := ⟨by show (-q.num).natAbs < Lim; rw [Int.natAbs_neg]; exact h.1, h.2⟩
theorem RRSub_long (p q : Rat) (hp : OkQ p) (hq : OkQ q) (hl : ¬ (ShortQ p ∧ ShortQ q)) (w : World) :
    Calls Tryz.prog 22 #[qv p, qv q] w fun e w' => e = .returned (.tuple #[zv, .int .i64 2]) ∧ Below w.heap.size w w' := by
  have hc := fun W => RRAdd_long p (-q) hp hq.neg (fun h => hl ⟨h.1, by have := h.2.neg; rwa [Rat.neg_neg] at this⟩) W
  have ho := fun W => RRNeg_q q W
  rw [neg_agg] at hc ho
  exact RRSub_go _ _ _ _ _ _ _ _ _ _ _ w (vq p hp) (vq q hq) ho hc

theorem RRDiv_zeroq (p : Rat) (hp : OkQ p) (w : World) :
    Calls Tryz.prog 26 #[qv p, qv 0] w fun e w' => e = .returned (.tuple #[zv, .int .i64 15]) ∧ Below w.heap.size w w' :=
  RRDiv_zero _ _ _ _ _ _ (T_is_zero 0) w (vq p hp) (vq 0 ⟨by have := one_lt_Lim; show 0 < Lim; omega, one_lt_Lim⟩)
theorem RRDiv_short (p q : Rat) (hp : ShortQ p) (hq : ShortQ q) (h0 : q ≠ 0) (w : World) :
    Calls Tryz.prog 26 #[qv p, qv q] w fun e w' => e = .returned (.tuple #[qv (p / q), .int .i64 0]) ∧ Below w.heap.size w w' := by
  have hi := inv_size h0
  have hz := T_is_zero q.num.natAbs
  rw [decide_eq_false (by have := num_ne_zero h0; omega)] at hz
  have km := fun W => RRMul_short p q⁻¹ hp ⟨by rw [hi.1]; exact hq.2, by rw [hi.2]; exact hq.1⟩ W
  rw [inv_qv h0, ← Rat.div_def] at km
  exact RRDiv_go _ _ _ _ _ _ _ _ _ _ hz w (vq p hp.ok) (vq q hq.ok) km
theorem RRDiv_long (p q : Rat) (hp : OkQ p) (hq : OkQ q) (h0 : q ≠ 0) (hl : ¬ (ShortQ p ∧ ShortQ q)) (w : World) :
    Calls Tryz.prog 26 #[qv p, qv q] w fun e w' => e = .returned (.tuple #[zv, .int .i64 2]) ∧ Below w.heap.size w w' := by
  have hi := inv_size h0
  have hz := T_is_zero q.num.natAbs
  rw [decide_eq_false (by have := num_ne_zero h0; omega)] at hz
  have km := fun W => RRMul_long p q⁻¹ hp ⟨by rw [hi.1]; exact hq.2, by rw [hi.2]; exact hq.1⟩ (fun h => hl ⟨h.1, by have := h.2.2; rw [hi.2] at this; exact this, by have := h.2.1; rw [hi.1] at this; exact this⟩) W
  rw [inv_qv h0] at km
  exact RRDiv_go _ _ _ _ _ _ _ _ _ _ hz w (vq p hp) (vq q hq) km

theorem RRCompare_short (p q : Rat) (hp : ShortQ p) (hq : ShortQ q) (w : World) :
    Calls Tryz.prog 27 #[qv p, qv q] w fun e w' => e = .returned (.tuple #[.int .i64 (cmpQ p q), .int .i64 0]) ∧ Below w.heap.size w w' := by
  refine RRCompare_w _ _ _ _ _ _ _ _ _ 0 (cmpQ p q) 0 w (fun W => RRSub_short p q hp hq W) ?_
  unfold cmpQ
  rw [T_is_zero]
  by_cases h2 : p = q
  · refine .inr (.inl ⟨rfl, ?_, ?_, rfl⟩)
    · rw [(sub_zero_iff p q).2 h2]; rfl
    · rw [if_neg (h2 ▸ Rat.lt_irrefl), if_pos h2]
  · have h3 := num_ne_zero (fun h => h2 ((sub_zero_iff p q).1 h))
    have h4 : decide ((p - q).num.natAbs = 0) = false := decide_eq_false (by omega)
    by_cases h1 : p < q
    · exact .inr (.inr (.inl ⟨rfl, h4, decide_eq_true ((sub_neg_iff p q).2 h1), if_pos h1, rfl⟩))
    · refine .inr (.inr (.inr ⟨rfl, h4, decide_eq_false ((not_congr (sub_neg_iff p q)).2 h1), ?_, rfl⟩))
      rw [if_neg h1, if_neg h2]
theorem RRCompare_long (p q : Rat) (hp : OkQ p) (hq : OkQ q) (hl : ¬ (ShortQ p ∧ ShortQ q)) (w : World) :
    Calls Tryz.prog 27 #[qv p, qv q] w fun e w' => e = .returned (.tuple #[.int .i64 0, .int .i64 2]) ∧ Below w.heap.size w w' :=
  RRCompare_w _ _ _ _ _ _ _ _ _ 2 0 2 w (fun W => RRSub_long p q hp hq hl W) (.inl ⟨by omega, rfl, rfl⟩)
theorem RRCompare_bad (g1 g2 : Bool) (n1 d1 n2 d2 : ByteArray) (w : World) (s1 : n1.size ≤ 140737488355328) (s2 : d1.size ≤ 140737488355328) (s3 : n2.size ≤ 140737488355328) (s4 : d2.size ≤ 140737488355328) (hb : validB g1 n1 d1 = false ∨ validB g2 n2 d2 = false) :
    Calls Tryz.prog 27 #[.agg #[.bool g1, .string n1, .string d1], .agg #[.bool g2, .string n2, .string d2]] w fun e w' => e = .returned (.tuple #[.int .i64 0, .int .i64 1]) ∧ Below w.heap.size w w' :=
  RRCompare_w _ _ _ _ _ _ _ _ _ 1 0 1 w (fun W => RRSub_bad g1 g2 n1 d1 n2 d2 W s1 s2 s3 s4 hb) (.inl ⟨by omega, rfl, rfl⟩)

end Nt
end Go.Proofs.YtjahnkeafaebdaaGreatDoor

namespace Go.Proofs.YtjahnkeafaebdaaGreatDoor
open Go.RowKit Go.Shelf
namespace Nt

set_option maxRecDepth 100000 in
set_option maxHeartbeats 2000000 in
theorem RRFloor_bad (g : Bool) (n d : ByteArray)  (w : World)
    (kv : ∀ W, Calls Tryz.prog 20 #[.agg #[.bool g, .string n, .string d]] W fun e w' => e = .returned (.bool false) ∧ Below W.heap.size W w') :
    Calls Tryz.prog 28 #[.agg #[.bool g, .string n, .string d]] w fun e w' => e = .returned (.tuple #[.int .i64 0, .int .i64 1]) ∧ Below w.heap.size w w' := by
  have q0 := Lib.hid (B3.new w g n d)
  have hB0 := Lib.hid (uniW_below w g n d)
  replace kv := Lib.hid kv
  go_enter Tryz.func28, Tryz.ntmps28
  go_wp2_with fail
  refine (kv.out _).mono ?_
  rintro e w1 ⟨rfl, hb⟩
  have q1 := Lib.hid (q0.out.below hb)
  have hB1 := Lib.hid (hB0.out.trans (hb.mono hB0.out.size))
  clear hb
  obtain ⟨a1, a2, a3, a4, a5, a6⟩ := q1.out.facts
  go_wp2
  go_ret2
  exact ⟨rfl, hB1.out⟩

set_option maxRecDepth 100000 in
set_option maxHeartbeats 2000000 in
theorem RRFloor_pos_ok (n d : ByteArray) (q r : ByteArray) (z : Int) (w : World)
    (kv : ∀ W, Calls Tryz.prog 20 #[.agg #[.bool false, .string n, .string d]] W fun e w' => e = .returned (.bool true) ∧ Below W.heap.size W w')
    (kd : ∀ W, Calls Tryz.prog 61 #[.string n, .string d] W fun e w' => e = .returned (.tuple #[.string q, .string r, .int .i64 0]) ∧ Below W.heap.size W w')
    (ki : ∀ W, Calls Tryz.prog 62 #[.string q] W fun e w' => e = .returned (.tuple #[.int .i64 z, .int .i64 0]) ∧ Below W.heap.size W w') :
    Calls Tryz.prog 28 #[.agg #[.bool false, .string n, .string d]] w fun e w' => e = .returned (.tuple #[.int .i64 z, .int .i64 0]) ∧ Below w.heap.size w w' := by
  have q0 := Lib.hid (B3.new w false n d)
  have hB0 := Lib.hid (uniW_below w false n d)
  replace kv := Lib.hid kv
  replace kd := Lib.hid kd
  replace ki := Lib.hid ki
  go_enter Tryz.func28, Tryz.ntmps28
  go_wp2_with fail
  refine (kv.out _).mono ?_
  rintro e w1 ⟨rfl, hb⟩
  have q1 := Lib.hid (q0.out.below hb)
  have hB1 := Lib.hid (hB0.out.trans (hb.mono hB0.out.size))
  clear hb
  obtain ⟨a1, a2, a3, a4, a5, a6⟩ := q1.out.facts
  go_wp2_with fail
  refine (kd.out _).mono ?_
  rintro e w2 ⟨rfl, hb⟩
  have q2 := Lib.hid (q1.out.below hb)
  have hB2 := Lib.hid (hB1.out.trans (hb.mono hB1.out.size))
  clear hb a1 a2 a3 a4 a5 a6
  obtain ⟨a1, a2, a3, a4, a5, a6⟩ := q2.out.facts
  go_wp2_with fail
  refine (ki.out _).mono ?_
  rintro e w3 ⟨rfl, hb⟩
  have q3 := Lib.hid (q2.out.below hb)
  have hB3 := Lib.hid (hB2.out.trans (hb.mono hB2.out.size))
  clear hb a1 a2 a3 a4 a5 a6
  obtain ⟨a1, a2, a3, a4, a5, a6⟩ := q3.out.facts
  go_wp2
  go_ret2
  exact ⟨rfl, hB3.out⟩

set_option maxRecDepth 100000 in
set_option maxHeartbeats 2000000 in
theorem RRFloor_pos_er (n d : ByteArray) (q r : ByteArray) (w : World)
    (kv : ∀ W, Calls Tryz.prog 20 #[.agg #[.bool false, .string n, .string d]] W fun e w' => e = .returned (.bool true) ∧ Below W.heap.size W w')
    (kd : ∀ W, Calls Tryz.prog 61 #[.string n, .string d] W fun e w' => e = .returned (.tuple #[.string q, .string r, .int .i64 0]) ∧ Below W.heap.size W w')
    (ki : ∀ W, Calls Tryz.prog 62 #[.string q] W fun e w' => e = .returned (.tuple #[.int .i64 0, .int .i64 10]) ∧ Below W.heap.size W w') :
    Calls Tryz.prog 28 #[.agg #[.bool false, .string n, .string d]] w fun e w' => e = .returned (.tuple #[.int .i64 0, .int .i64 10]) ∧ Below w.heap.size w w' := by
  have q0 := Lib.hid (B3.new w false n d)
  have hB0 := Lib.hid (uniW_below w false n d)
  replace kv := Lib.hid kv
  replace kd := Lib.hid kd
  replace ki := Lib.hid ki
  go_enter Tryz.func28, Tryz.ntmps28
  go_wp2_with fail
  refine (kv.out _).mono ?_
  rintro e w1 ⟨rfl, hb⟩
  have q1 := Lib.hid (q0.out.below hb)
  have hB1 := Lib.hid (hB0.out.trans (hb.mono hB0.out.size))
  clear hb
  obtain ⟨a1, a2, a3, a4, a5, a6⟩ := q1.out.facts
  go_wp2_with fail
  refine (kd.out _).mono ?_
  rintro e w2 ⟨rfl, hb⟩
  have q2 := Lib.hid (q1.out.below hb)
  have hB2 := Lib.hid (hB1.out.trans (hb.mono hB1.out.size))
  clear hb a1 a2 a3 a4 a5 a6
  obtain ⟨a1, a2, a3, a4, a5, a6⟩ := q2.out.facts
  go_wp2_with fail
  refine (ki.out _).mono ?_
  rintro e w3 ⟨rfl, hb⟩
  have q3 := Lib.hid (q2.out.below hb)
  have hB3 := Lib.hid (hB2.out.trans (hb.mono hB2.out.size))
  clear hb a1 a2 a3 a4 a5 a6
  obtain ⟨a1, a2, a3, a4, a5, a6⟩ := q3.out.facts
  go_wp2
  go_ret2
  exact ⟨rfl, hB3.out⟩

set_option maxRecDepth 100000 in
set_option maxHeartbeats 2000000 in
theorem RRFloor_neg0_ok (n d : ByteArray) (q r x : ByteArray) (z : Int) (w : World)
    (kv : ∀ W, Calls Tryz.prog 20 #[.agg #[.bool true, .string n, .string d]] W fun e w' => e = .returned (.bool true) ∧ Below W.heap.size W w')
    (kd : ∀ W, Calls Tryz.prog 61 #[.string n, .string d] W fun e w' => e = .returned (.tuple #[.string q, .string r, .int .i64 0]) ∧ Below W.heap.size W w')
    (ks : ∀ W, Calls Tryz.prog 53 #[.string q, .string ⟨#[49]⟩] W fun e w' => e = .returned (.tuple #[.string x, .int .i64 0]) ∧ Below W.heap.size W w')
    (ki : ∀ W, Calls Tryz.prog 62 #[.string x] W fun e w' => e = .returned (.tuple #[.int .i64 z, .int .i64 0]) ∧ Below W.heap.size W w')
    (hr : (r.toList == [48]) = true)
    (hz0 : 0 ≤ z)
    (hz1 : z ≤ 9223372036854775807) :
    Calls Tryz.prog 28 #[.agg #[.bool true, .string n, .string d]] w fun e w' => e = .returned (.tuple #[.int .i64 (-z - 1), .int .i64 0]) ∧ Below w.heap.size w w' := by
  have q0 := Lib.hid (B3.new w true n d)
  have hB0 := Lib.hid (uniW_below w true n d)
  replace kv := Lib.hid kv
  replace kd := Lib.hid kd
  replace ks := Lib.hid ks
  replace ki := Lib.hid ki
  go_enter Tryz.func28, Tryz.ntmps28
  go_wp2_with fail
  refine (kv.out _).mono ?_
  rintro e w1 ⟨rfl, hb⟩
  have q1 := Lib.hid (q0.out.below hb)
  have hB1 := Lib.hid (hB0.out.trans (hb.mono hB0.out.size))
  clear hb
  obtain ⟨a1, a2, a3, a4, a5, a6⟩ := q1.out.facts
  go_wp2_with fail
  refine (kd.out _).mono ?_
  rintro e w2 ⟨rfl, hb⟩
  have q2 := Lib.hid (q1.out.below hb)
  have hB2 := Lib.hid (hB1.out.trans (hb.mono hB1.out.size))
  clear hb a1 a2 a3 a4 a5 a6
  obtain ⟨a1, a2, a3, a4, a5, a6⟩ := q2.out.facts
  go_wp2_with fail
  refine (ks.out _).mono ?_
  rintro e w3 ⟨rfl, hb⟩
  have q3 := Lib.hid (q2.out.below hb)
  have hB3 := Lib.hid (hB2.out.trans (hb.mono hB2.out.size))
  clear hb a1 a2 a3 a4 a5 a6
  obtain ⟨a1, a2, a3, a4, a5, a6⟩ := q3.out.facts
  go_wp2_with fail
  refine (ki.out _).mono ?_
  rintro e w4 ⟨rfl, hb⟩
  have q4 := Lib.hid (q3.out.below hb)
  have hB4 := Lib.hid (hB3.out.trans (hb.mono hB3.out.size))
  clear hb a1 a2 a3 a4 a5 a6
  obtain ⟨a1, a2, a3, a4, a5, a6⟩ := q4.out.facts
  go_wp2
  go_ret2
  exact ⟨rfl, hB4.out⟩

set_option maxRecDepth 100000 in
set_option maxHeartbeats 2000000 in
theorem RRFloor_neg0_er (n d : ByteArray) (q r x : ByteArray) (w : World)
    (kv : ∀ W, Calls Tryz.prog 20 #[.agg #[.bool true, .string n, .string d]] W fun e w' => e = .returned (.bool true) ∧ Below W.heap.size W w')
    (kd : ∀ W, Calls Tryz.prog 61 #[.string n, .string d] W fun e w' => e = .returned (.tuple #[.string q, .string r, .int .i64 0]) ∧ Below W.heap.size W w')
    (ks : ∀ W, Calls Tryz.prog 53 #[.string q, .string ⟨#[49]⟩] W fun e w' => e = .returned (.tuple #[.string x, .int .i64 0]) ∧ Below W.heap.size W w')
    (ki : ∀ W, Calls Tryz.prog 62 #[.string x] W fun e w' => e = .returned (.tuple #[.int .i64 0, .int .i64 10]) ∧ Below W.heap.size W w')
    (hr : (r.toList == [48]) = true) :
    Calls Tryz.prog 28 #[.agg #[.bool true, .string n, .string d]] w fun e w' => e = .returned (.tuple #[.int .i64 0, .int .i64 10]) ∧ Below w.heap.size w w' := by
  have q0 := Lib.hid (B3.new w true n d)
  have hB0 := Lib.hid (uniW_below w true n d)
  replace kv := Lib.hid kv
  replace kd := Lib.hid kd
  replace ks := Lib.hid ks
  replace ki := Lib.hid ki
  go_enter Tryz.func28, Tryz.ntmps28
  go_wp2_with fail
  refine (kv.out _).mono ?_
  rintro e w1 ⟨rfl, hb⟩
  have q1 := Lib.hid (q0.out.below hb)
  have hB1 := Lib.hid (hB0.out.trans (hb.mono hB0.out.size))
  clear hb
  obtain ⟨a1, a2, a3, a4, a5, a6⟩ := q1.out.facts
  go_wp2_with fail
  refine (kd.out _).mono ?_
  rintro e w2 ⟨rfl, hb⟩
  have q2 := Lib.hid (q1.out.below hb)
  have hB2 := Lib.hid (hB1.out.trans (hb.mono hB1.out.size))
  clear hb a1 a2 a3 a4 a5 a6
  obtain ⟨a1, a2, a3, a4, a5, a6⟩ := q2.out.facts
  go_wp2_with fail
  refine (ks.out _).mono ?_
  rintro e w3 ⟨rfl, hb⟩
  have q3 := Lib.hid (q2.out.below hb)
  have hB3 := Lib.hid (hB2.out.trans (hb.mono hB2.out.size))
  clear hb a1 a2 a3 a4 a5 a6
  obtain ⟨a1, a2, a3, a4, a5, a6⟩ := q3.out.facts
  go_wp2_with fail
  refine (ki.out _).mono ?_
  rintro e w4 ⟨rfl, hb⟩
  have q4 := Lib.hid (q3.out.below hb)
  have hB4 := Lib.hid (hB3.out.trans (hb.mono hB3.out.size))
  clear hb a1 a2 a3 a4 a5 a6
  obtain ⟨a1, a2, a3, a4, a5, a6⟩ := q4.out.facts
  go_wp2
  go_ret2
  exact ⟨rfl, hB4.out⟩

set_option maxRecDepth 100000 in
set_option maxHeartbeats 2000000 in
theorem RRFloor_neg1_ok (n d : ByteArray) (q r x p : ByteArray) (z : Int) (w : World)
    (kv : ∀ W, Calls Tryz.prog 20 #[.agg #[.bool true, .string n, .string d]] W fun e w' => e = .returned (.bool true) ∧ Below W.heap.size W w')
    (kd : ∀ W, Calls Tryz.prog 61 #[.string n, .string d] W fun e w' => e = .returned (.tuple #[.string q, .string r, .int .i64 0]) ∧ Below W.heap.size W w')
    (ka : ∀ W, Calls Tryz.prog 51 #[.string q, .string ⟨#[49]⟩] W fun e w' => e = .returned (.tuple #[.string p, .int .i64 0]) ∧ Below W.heap.size W w')
    (ks : ∀ W, Calls Tryz.prog 53 #[.string p, .string ⟨#[49]⟩] W fun e w' => e = .returned (.tuple #[.string x, .int .i64 0]) ∧ Below W.heap.size W w')
    (ki : ∀ W, Calls Tryz.prog 62 #[.string x] W fun e w' => e = .returned (.tuple #[.int .i64 z, .int .i64 0]) ∧ Below W.heap.size W w')
    (hr : (r.toList == [48]) = false)
    (hz0 : 0 ≤ z)
    (hz1 : z ≤ 9223372036854775807) :
    Calls Tryz.prog 28 #[.agg #[.bool true, .string n, .string d]] w fun e w' => e = .returned (.tuple #[.int .i64 (-z - 1), .int .i64 0]) ∧ Below w.heap.size w w' := by
  have q0 := Lib.hid (B3.new w true n d)
  have hB0 := Lib.hid (uniW_below w true n d)
  replace kv := Lib.hid kv
  replace kd := Lib.hid kd
  replace ka := Lib.hid ka
  replace ks := Lib.hid ks
  replace ki := Lib.hid ki
  go_enter Tryz.func28, Tryz.ntmps28
  go_wp2_with fail
  refine (kv.out _).mono ?_
  rintro e w1 ⟨rfl, hb⟩
  have q1 := Lib.hid (q0.out.below hb)
  have hB1 := Lib.hid (hB0.out.trans (hb.mono hB0.out.size))
  clear hb
  obtain ⟨a1, a2, a3, a4, a5, a6⟩ := q1.out.facts
  go_wp2_with fail
  refine (kd.out _).mono ?_
  rintro e w2 ⟨rfl, hb⟩
  have q2 := Lib.hid (q1.out.below hb)
  have hB2 := Lib.hid (hB1.out.trans (hb.mono hB1.out.size))
  clear hb a1 a2 a3 a4 a5 a6
  obtain ⟨a1, a2, a3, a4, a5, a6⟩ := q2.out.facts
  go_wp2_with fail
  refine (ka.out _).mono ?_
  rintro e w3 ⟨rfl, hb⟩
  have q3 := Lib.hid (q2.out.below hb)
  have hB3 := Lib.hid (hB2.out.trans (hb.mono hB2.out.size))
  clear hb a1 a2 a3 a4 a5 a6
  obtain ⟨a1, a2, a3, a4, a5, a6⟩ := q3.out.facts
  go_wp2_with fail
  refine (ks.out _).mono ?_
  rintro e w4 ⟨rfl, hb⟩
  have q4 := Lib.hid (q3.out.below hb)
  have hB4 := Lib.hid (hB3.out.trans (hb.mono hB3.out.size))
  clear hb a1 a2 a3 a4 a5 a6
  obtain ⟨a1, a2, a3, a4, a5, a6⟩ := q4.out.facts
  go_wp2_with fail
  refine (ki.out _).mono ?_
  rintro e w5 ⟨rfl, hb⟩
  have q5 := Lib.hid (q4.out.below hb)
  have hB5 := Lib.hid (hB4.out.trans (hb.mono hB4.out.size))
  clear hb a1 a2 a3 a4 a5 a6
  obtain ⟨a1, a2, a3, a4, a5, a6⟩ := q5.out.facts
  go_wp2
  go_ret2
  exact ⟨rfl, hB5.out⟩

set_option maxRecDepth 100000 in
set_option maxHeartbeats 2000000 in
theorem RRFloor_neg1_er (n d : ByteArray) (q r x p : ByteArray) (w : World)
    (kv : ∀ W, Calls Tryz.prog 20 #[.agg #[.bool true, .string n, .string d]] W fun e w' => e = .returned (.bool true) ∧ Below W.heap.size W w')
    (kd : ∀ W, Calls Tryz.prog 61 #[.string n, .string d] W fun e w' => e = .returned (.tuple #[.string q, .string r, .int .i64 0]) ∧ Below W.heap.size W w')
    (ka : ∀ W, Calls Tryz.prog 51 #[.string q, .string ⟨#[49]⟩] W fun e w' => e = .returned (.tuple #[.string p, .int .i64 0]) ∧ Below W.heap.size W w')
    (ks : ∀ W, Calls Tryz.prog 53 #[.string p, .string ⟨#[49]⟩] W fun e w' => e = .returned (.tuple #[.string x, .int .i64 0]) ∧ Below W.heap.size W w')
    (ki : ∀ W, Calls Tryz.prog 62 #[.string x] W fun e w' => e = .returned (.tuple #[.int .i64 0, .int .i64 10]) ∧ Below W.heap.size W w')
    (hr : (r.toList == [48]) = false) :
    Calls Tryz.prog 28 #[.agg #[.bool true, .string n, .string d]] w fun e w' => e = .returned (.tuple #[.int .i64 0, .int .i64 10]) ∧ Below w.heap.size w w' := by
  have q0 := Lib.hid (B3.new w true n d)
  have hB0 := Lib.hid (uniW_below w true n d)
  replace kv := Lib.hid kv
  replace kd := Lib.hid kd
  replace ka := Lib.hid ka
  replace ks := Lib.hid ks
  replace ki := Lib.hid ki
  go_enter Tryz.func28, Tryz.ntmps28
  go_wp2_with fail
  refine (kv.out _).mono ?_
  rintro e w1 ⟨rfl, hb⟩
  have q1 := Lib.hid (q0.out.below hb)
  have hB1 := Lib.hid (hB0.out.trans (hb.mono hB0.out.size))
  clear hb
  obtain ⟨a1, a2, a3, a4, a5, a6⟩ := q1.out.facts
  go_wp2_with fail
  refine (kd.out _).mono ?_
  rintro e w2 ⟨rfl, hb⟩
  have q2 := Lib.hid (q1.out.below hb)
  have hB2 := Lib.hid (hB1.out.trans (hb.mono hB1.out.size))
  clear hb a1 a2 a3 a4 a5 a6
  obtain ⟨a1, a2, a3, a4, a5, a6⟩ := q2.out.facts
  go_wp2_with fail
  refine (ka.out _).mono ?_
  rintro e w3 ⟨rfl, hb⟩
  have q3 := Lib.hid (q2.out.below hb)
  have hB3 := Lib.hid (hB2.out.trans (hb.mono hB2.out.size))
  clear hb a1 a2 a3 a4 a5 a6
  obtain ⟨a1, a2, a3, a4, a5, a6⟩ := q3.out.facts
  go_wp2_with fail
  refine (ks.out _).mono ?_
  rintro e w4 ⟨rfl, hb⟩
  have q4 := Lib.hid (q3.out.below hb)
  have hB4 := Lib.hid (hB3.out.trans (hb.mono hB3.out.size))
  clear hb a1 a2 a3 a4 a5 a6
  obtain ⟨a1, a2, a3, a4, a5, a6⟩ := q4.out.facts
  go_wp2_with fail
  refine (ki.out _).mono ?_
  rintro e w5 ⟨rfl, hb⟩
  have q5 := Lib.hid (q4.out.below hb)
  have hB5 := Lib.hid (hB4.out.trans (hb.mono hB4.out.size))
  clear hb a1 a2 a3 a4 a5 a6
  obtain ⟨a1, a2, a3, a4, a5, a6⟩ := q5.out.facts
  go_wp2
  go_ret2
  exact ⟨rfl, hB5.out⟩

theorem rint (k : Nat) (w : World) (hk : k < Lim) : Calls Tryz.prog 62 #[.string (T (some k))] w fun e w' => e = .returned (.tuple #[.int .i64 (if k ≤ 9223372036854775807 then (k : Int) else 0), .int .i64 (if k ≤ 9223372036854775807 then 0 else 10)]) ∧ Below w.heap.size w w' := by
  have h := RefInt_any (T (some k)) w (size_T (ok_some hk))
  have h1 : isN (T (some k)) = true := isN_T (ok_some hk)
  have h2 : val (T (some k)) = k := val_num k
  unfold intV intE at h
  rw [h1, h2] at h
  simpa using h

theorem RRFloor_any (q : Rat) (hq : OkQ q) (w : World) :
    Calls Tryz.prog 28 #[qv q] w fun e w' => e = .returned (.tuple #[.int .i64 (floorV q), .int .i64 (floorE q)]) ∧ Below w.heap.size w w' := by
  have hv := valid_qv hq
  have hz := size_of_valid hv
  have kv := fun W => RRValid_any (decide (q.num < 0)) (T (some q.num.natAbs)) (T (some q.den)) W (by omega) (by omega)
  rw [hv] at kv
  have hd := q.den_nz
  have kd := fun W => rdiv q.num.natAbs q.den W hq.1 hq.2 hd
  have hkl : q.num.natAbs / q.den < Lim := Nat.lt_of_le_of_lt (Nat.div_le_self _ _) hq.1
  have hfl : q.floor = q.num / q.den := Rat.floor_def q
  unfold floorV floorE
  rw [hfl]
  unfold qv
  by_cases hn : q.num < 0
  · rw [decide_eq_true hn] at kv ⊢
    by_cases hr : q.num.natAbs % q.den = 0
    · have hz : q.num / (q.den : Int) = -((q.num.natAbs / q.den : Nat) : Int) := by
        have e : q.num = -((q.num.natAbs : Nat) : Int) := by omega
        conv => lhs; rw [e]
        rw [Int.neg_ediv_of_dvd (Int.ofNat_dvd.2 (Nat.dvd_of_mod_eq_zero hr)), Int.natCast_ediv]
      have hk0 : 0 < q.num.natAbs / q.den := Nat.div_pos (Nat.le_of_dvd (by omega) (Nat.dvd_of_mod_eq_zero hr)) (by omega)
      have hrz : ((T (some (q.num.natAbs % q.den))).toList == [48]) = true := by rw [T_is_zero]; exact decide_eq_true hr
      rw [hz]
      clear hz hfl
      generalize q.num.natAbs / q.den = k at *
      have ks := fun W => rsub k 1 W hkl (by omega) hk0
      rw [T_one] at ks
      have ki := fun W => rint (k - 1) W (by omega)
      by_cases hi : k ≤ 9223372036854775808
      · rw [if_pos (by omega), if_pos (by omega)] at ki
        have hin : InInt (-((k : Nat) : Int)) := ⟨by omega, by omega⟩
        rw [if_pos hin, if_pos hin, show -((k : Nat) : Int) = -(((k - 1 : Nat)) : Int) - 1 by omega]
        exact RRFloor_neg0_ok _ _ _ _ _ _ w kv kd ks ki hrz (by omega) (by omega)
      · rw [if_neg (by omega), if_neg (by omega)] at ki
        have hin : ¬ InInt (-((k : Nat) : Int)) := fun h => hi (by have := h.1; omega)
        rw [if_neg hin, if_neg hin]
        exact RRFloor_neg0_er _ _ _ _ _ w kv kd ks ki hrz
    · have hz : q.num / (q.den : Int) = -((q.num.natAbs / q.den + 1 : Nat) : Int) := by
        have e : q.num = -((q.num.natAbs : Nat) : Int) := by omega
        conv => lhs; rw [e]
        exact neg_ediv_up _ _ (by omega) hr
      have hk1 : q.num.natAbs / q.den + 1 < Lim := by
        have h2 : 2 ≤ q.den := by
          rcases Nat.lt_or_ge q.den 2 with h | h
          · have : q.den = 1 := by omega
            rw [this, Nat.mod_one] at hr
            exact absurd rfl hr
          · exact h
        have h3 : q.num.natAbs / q.den ≤ q.num.natAbs / 2 := Nat.div_le_div_left h2 (by omega)
        generalize q.num.natAbs / q.den = k at *
        have := hq.1
        have := one_lt_Lim
        omega
      have hrz : ((T (some (q.num.natAbs % q.den))).toList == [48]) = false := by rw [T_is_zero]; exact decide_eq_false hr
      rw [hz]
      clear hz hfl
      generalize q.num.natAbs / q.den = k at *
      have ka := fun W => radd k 1 W hkl (by omega) hk1
      rw [T_one] at ka
      have ks := fun W => rsub (k + 1) 1 W hk1 (by omega) (by omega)
      rw [T_one, Nat.add_sub_cancel] at ks
      have ki := fun W => rint k W hkl
      by_cases hi : k ≤ 9223372036854775807
      · rw [if_pos hi, if_pos hi] at ki
        have hin : InInt (-((k + 1 : Nat) : Int)) := ⟨by omega, by omega⟩
        rw [if_pos hin, if_pos hin, show -((k + 1 : Nat) : Int) = -((k : Nat) : Int) - 1 by omega]
        exact RRFloor_neg1_ok _ _ _ _ _ _ _ w kv kd ka ks ki hrz (by omega) (by omega)
      · rw [if_neg hi, if_neg hi] at ki
        have hin : ¬ InInt (-((k + 1 : Nat) : Int)) := fun h => hi (by have := h.1; omega)
        rw [if_neg hin, if_neg hin]
        exact RRFloor_neg1_er _ _ _ _ _ _ w kv kd ka ks ki hrz
  · rw [decide_eq_false hn] at kv ⊢
    have hz : q.num / (q.den : Int) = ((q.num.natAbs / q.den : Nat) : Int) := by
      have e : q.num = ((q.num.natAbs : Nat) : Int) := by omega
      conv => lhs; rw [e]
      rw [Int.natCast_ediv]
    rw [hz]
    clear hz hfl
    generalize q.num.natAbs / q.den = k at *
    have ki := fun W => rint k W hkl
    by_cases hi : k ≤ 9223372036854775807
    · rw [if_pos hi, if_pos hi] at ki
      have hin : InInt ((k : Nat) : Int) := ⟨by omega, by omega⟩
      rw [if_pos hin, if_pos hin]
      exact RRFloor_pos_ok _ _ _ _ _ w kv kd ki
    · rw [if_neg hi, if_neg hi] at ki
      have hin : ¬ InInt ((k : Nat) : Int) := fun h => hi (by have := h.2; omega)
      rw [if_neg hin, if_neg hin]
      exact RRFloor_pos_er _ _ _ _ w kv kd ki

set_option maxRecDepth 100000 in
theorem RRText_bad (g : Bool) (n d : ByteArray) (w : World) (kv : ∀ W, Calls Tryz.prog 20 #[.agg #[.bool g, .string n, .string d]] W fun e w' => e = .returned (.bool false) ∧ Below W.heap.size W w') :
    Calls Tryz.prog 33 #[.agg #[.bool g, .string n, .string d]] w fun e w' => e = .returned (.tuple #[.string ⟨#[]⟩, .int .i64 1]) ∧ Below w.heap.size w w' := by
  replace kv := Lib.hid kv
  go_enter Tryz.func33, Tryz.ntmps33
  go_wp2_with fail
  refine (kv.out _).mono ?_
  rintro e w1 ⟨rfl, hb1⟩
  have hB1 := Lib.hid ((uniW_below w g n d).trans (hb1.mono (by simp)))
  clear hb1
  go_wp2
  go_ret2
  exact ⟨rfl, hB1.out⟩

set_option maxRecDepth 100000 in
theorem RRText_good (g : Bool) (n d : ByteArray) (w : World) (sn : n.size ≤ 140737488355328) (sd : d.size ≤ 140737488355328) (kv : ∀ W, Calls Tryz.prog 20 #[.agg #[.bool g, .string n, .string d]] W fun e w' => e = .returned (.bool true) ∧ Below W.heap.size W w') :
    Calls Tryz.prog 33 #[.agg #[.bool g, .string n, .string d]] w fun e w' => e = .returned (.tuple #[.string (showV g n d), .int .i64 0]) ∧ Below w.heap.size w w' := by
  replace kv := Lib.hid kv
  unfold showV signed
  cases g <;> cases hd : (d.toList == [49])
  all_goals
    go_enter Tryz.func33, Tryz.ntmps33
    go_wp2_with fail
    refine (kv.out _).mono ?_
    rintro e w1 ⟨rfl, hb1⟩
    obtain ⟨a1, a2, a3, a4, a5, a6⟩ := ((B3.new w _ n d).below hb1).facts
    have hB1 := Lib.hid ((uniW_below w _ n d).trans (hb1.mono (by simp)))
    clear hb1
    go_wp2
    go_ret2
    exact ⟨by first | rfl | (rw [ByteArray.append_assoc]; rfl), hB1.out⟩

end Nt
end Go.Proofs.YtjahnkeafaebdaaGreatDoor

namespace Go.Proofs.YtjahnkeafaebdaaGreatDoor
open Go.RowKit Go.Shelf
namespace Nt

/-- What Parse gives for a text. -/
def pres (t : ByteArray) : Value := .tuple #[if pok t then .agg #[.bool (pneg t), .string (pnum t), .string (pden t)] else zv, .int .i64 (if pok t then 0 else 5)]
/-- No stroke among the first bytes. -/
def NoStroke (s : ByteArray) (k : Nat) : Prop := ∀ j (h : j < s.size), j < k → s[j].toNat ≠ 47
theorem NoStroke.zero (s : ByteArray) : NoStroke s 0 := fun j _ h => absurd h (by omega)
theorem NoStroke.step {s : ByteArray} {k : Nat} (h : NoStroke s k) (hk : k < s.size) (hb : s[k].toNat ≠ 47) : NoStroke s (k + 1) := fun j hj h1 => by
  by_cases e : j = k
  · subst e; exact hb
  · exact h j hj (by omega)
theorem byte_list (s : ByteArray) (k : Nat) (h : k < s.size) : s.data.toList[k]? = some s[k] := Lib.data_getElem? s k h
theorem cut_found {s : ByteArray} {k : Nat} (hk : k < s.size) (hb : s[k].toNat = 47) (hn : NoStroke s k) :
    Lib.cut s.data.toList [47] = ((s.extract 0 k).data.toList, (s.extract (k + 1) s.size).data.toList, true) := by
  have hz : s.size = s.data.toList.length := Lib.size_eq _
  have e1 : (s.extract 0 k).data.toList = s.data.toList.take k := by rw [Lib.extract_data]; simp
  have e2 : (s.extract (k + 1) s.size).data.toList = s.data.toList.drop (k + 1) := Lib.extract_to_end _ _
  have e3 : s.data.toList = s.data.toList.take k ++ 47 :: s.data.toList.drop (k + 1) := by
    conv => lhs; rw [← List.take_append_drop k s.data.toList]
    have hl : k < s.data.toList.length := by omega
    have h1 : s.data.toList[k] = 47 := by
      have := byte_list s k hk
      rw [List.getElem?_eq_getElem hl] at this
      have h2 := Option.some.inj this
      rw [h2]
      exact UInt8.toNat_inj.1 hb
    rw [List.drop_eq_getElem_cons hl, h1]
  rw [e1, e2]
  conv => lhs; rw [e3]
  refine cut_at _ _ ?_
  intro x hx e
  obtain ⟨j, hj, rfl⟩ := List.getElem_of_mem hx
  rw [List.length_take] at hj
  rw [List.getElem_take] at e
  have h2 := byte_list s j (by omega)
  rw [List.getElem?_eq_getElem (by omega)] at h2
  have h3 := Option.some.inj h2
  rw [h3] at e
  exact hn j (by omega) (by omega) (by rw [e]; rfl)
theorem cut_none {s : ByteArray} (hn : NoStroke s s.size) : Lib.cut s.data.toList [47] = (s.data.toList, [], false) := by
  refine cut_no _ ?_
  intro x hx e
  obtain ⟨j, hj, rfl⟩ := List.getElem_of_mem hx
  have hz : s.size = s.data.toList.length := Lib.size_eq _
  have h2 := byte_list s j (by omega)
  rw [List.getElem?_eq_getElem hj] at h2
  have h3 := Option.some.inj h2
  rw [h3] at e
  exact hn j (by omega) (by omega) (by rw [e]; rfl)
theorem mk_list (s : ByteArray) : (⟨s.data.toList.toArray⟩ : ByteArray) = s := by
  apply ba_ext
  simp

theorem pres_found {t s : ByteArray} {k : Nat} (hs : s.data.toList = pdig t) (hk : k < s.size) (hb : s[k].toNat = 47) (hn : NoStroke s k) :
    pres t = if ((s.extract (k + 1) s.size).toList == [49]) = true then .tuple #[zv, .int .i64 5] else
      if validB (pneg t) (s.extract 0 k) (s.extract (k + 1) s.size) = true then .tuple #[.agg #[.bool (pneg t), .string (s.extract 0 k), .string (s.extract (k + 1) s.size)], .int .i64 0] else .tuple #[zv, .int .i64 5] := by
  have hc := cut_found hk hb hn
  rw [hs] at hc
  have e1 : pnum t = s.extract 0 k := by unfold pnum; rw [hc, mk_list]
  have e2 : pis t = true := by unfold pis; rw [hc]
  have e3 : pden0 t = s.extract (k + 1) s.size := by unfold pden0; rw [hc, mk_list]
  have e4 : pden t = s.extract (k + 1) s.size := by unfold pden; rw [e2, e3]; rfl
  unfold pres pok
  rw [e1, e2, e3, e4]
  generalize s.extract (k + 1) s.size = d
  cases d.toList == [49] <;> cases validB (pneg t) (s.extract 0 k) d <;> simp
theorem pres_none {t s : ByteArray} (hs : s.data.toList = pdig t) (hn : NoStroke s s.size) :
    pres t = if validB (pneg t) s ⟨#[49]⟩ = true then .tuple #[.agg #[.bool (pneg t), .string s, .string ⟨#[49]⟩], .int .i64 0] else .tuple #[zv, .int .i64 5] := by
  have hc := cut_none hn
  rw [hs] at hc
  have e1 : pnum t = s := by unfold pnum; rw [hc, ← hs, mk_list]
  have e2 : pis t = false := by unfold pis; rw [hc]
  have e4 : pden t = ⟨#[49]⟩ := by unfold pden; rw [e2]; rfl
  unfold pres pok
  rw [e1, e2, e4]
  cases validB (pneg t) s ⟨#[49]⟩ <;> simp
theorem pneg_iff (t : ByteArray) : pneg t = (decide (0 < t.size) && (t.data.toList[0]? == some 45)) := by
  unfold pneg Lib.hasPrefix
  rw [Lib.size_eq]
  cases t.data.toList with
  | nil => rfl
  | cons c l => simp [List.isPrefixOf]; rw [Bool.beq_comm]
theorem pdig_neg {t : ByteArray} (h : pneg t = true) : (t.extract 1 t.size).data.toList = pdig t := by
  unfold pneg at h
  unfold pdig Lib.trimPrefix
  rw [if_pos h]
  exact Lib.extract_to_end _ _
theorem pdig_pos {t : ByteArray} (h : pneg t = false) : t.data.toList = pdig t := by
  unfold pneg at h
  unfold pdig Lib.trimPrefix
  rw [if_neg (by rw [h]; simp)]

set_option maxRecDepth 100000 in
set_option maxHeartbeats 2000000 in
theorem RRParse_any (t : ByteArray) (w : World) (ht : t.size ≤ 1000000) :
    Calls Tryz.prog 34 #[.string t] w fun e w' => e = .returned (pres t) ∧ Below w.heap.size w w' := by
  have hg := pneg_iff t
  have key : (pneg t = false ∧ t.size = 0) ∨ (∃ h : 0 < t.size, pneg t = false ∧ ((t[0].toNat : Int) == 45) = false) ∨ (∃ h : 0 < t.size, pneg t = true ∧ ((t[0].toNat : Int) == 45) = true) := by
    rcases Nat.eq_zero_or_pos t.size with h | h
    · exact .inl ⟨by rw [hg, h]; rfl, h⟩
    · rw [byte_list t 0 h, decide_eq_true h, Bool.true_and] at hg
      cases hc : (some t[0] == some (45 : UInt8)) with
      | false =>
        refine .inr (.inl ⟨h, by rw [hg, hc], ?_⟩)
        rw [beq_eq_false_iff_ne]
        intro e
        have h1 : t[0] = 45 := UInt8.toNat_inj.1 (by show t[0].toNat = 45; omega)
        rw [h1] at hc
        simp at hc
      | true =>
        refine .inr (.inr ⟨h, by rw [hg, hc], ?_⟩)
        have h1 : t[0] = 45 := by simpa using hc
        rw [h1]
        rfl
  clear hg
  obtain ⟨g, hgd⟩ : ∃ g, g = pneg t := ⟨_, rfl⟩
  have HF := Lib.hid (fun (s : ByteArray) (k : Nat) hs hk hb hn => pres_found (t := t) (s := s) (k := k) hs hk hb hn)
  have HN := Lib.hid (fun (s : ByteArray) hs hn => pres_none (t := t) (s := s) hs hn)
  have HD0 := Lib.hid (pdig_pos (t := t))
  have HD1 := Lib.hid (pdig_neg (t := t))
  have HP : Hid (∀ s : ByteArray, s.data.toList = pdig t → s.size ≤ 1000000) := fun s hs => by
    have := pdig_len t
    rw [Lib.size_eq, hs]
    omega
  generalize hr : pres t = res at *
  rw [← hgd] at key HF HN HD0 HD1
  clear hgd hr
  rcases key with ⟨rfl, h0⟩ | ⟨h0, rfl, h1⟩ | ⟨h0, rfl, h1⟩
  · go_enter Tryz.func34, Tryz.ntmps34
    go_wp2
    have hs := HD0.out trivial
    replace hs := Lib.hid hs
    replace h0 := Lib.hid h0
    have q0 : Hid (B3 ((w.alloc (.cells #[.bool false, .string ⟨#[]⟩, .string ⟨#[]⟩] 23)).alloc (.cells #[.bool false, .string t, .string ⟨#[49]⟩] 23)) w.heap.size false ⟨#[]⟩ ⟨#[]⟩) := (B3.new w _ _ _).alloc _
    have r0 : Hid (B3 ((w.alloc (.cells #[.bool false, .string ⟨#[]⟩, .string ⟨#[]⟩] 23)).alloc (.cells #[.bool false, .string t, .string ⟨#[49]⟩] 23)) (w.heap.size + 1) false t ⟨#[49]⟩) := by
      have h := B3.new (w.alloc (.cells #[.bool false, .string ⟨#[]⟩, .string ⟨#[]⟩] 23)) false t ⟨#[49]⟩
      rwa [show (w.alloc (.cells #[.bool false, .string ⟨#[]⟩, .string ⟨#[]⟩] 23)).heap.size = w.heap.size + 1 by simp] at h
    have hB0 : Hid (Below w.heap.size w ((w.alloc (.cells #[.bool false, .string ⟨#[]⟩, .string ⟨#[]⟩] 23)).alloc (.cells #[.bool false, .string t, .string ⟨#[49]⟩] 23))) := ((Below.refl _ w).alloc (Nat.le_refl _) _).alloc (by simp) _
    obtain ⟨W0, hW0⟩ : ∃ W, W = (w.alloc (.cells #[.bool false, .string ⟨#[]⟩, .string ⟨#[]⟩] 23)).alloc (.cells #[.bool false, .string t, .string ⟨#[49]⟩] 23) := ⟨_, rfl⟩
    rw [← hW0] at q0 r0 hB0 ⊢
    clear hW0
    obtain ⟨a1, a2, a3, a4, a5, a6⟩ := q0.out.facts
    have a7 := q0.out.lt
    obtain ⟨b1, b2, b3, b4, b5, b6⟩ := r0.out.facts
    have b7 := r0.out.lt
    go_loop [5] (fun i => ∃ k : Nat, k ≤ t.size ∧ i = .int .i64 (k : Int) ∧ Hid (NoStroke t k)) (fun i => t.size - (intOf i).toNat)
    case atStart => exact ⟨0, Nat.zero_le _, rfl, NoStroke.zero _⟩
    case round =>
      obtain ⟨k, hk, rfl, hn⟩ := hrel
      by_cases hlt : k < t.size
      · cases hb : ((t[k].toNat : Int) == 47) with
        | false =>
          have hn2 := Lib.hid (hn.out.step hlt (fun e => by rw [e] at hb; cases hb))
          go_wp2
          go_round
          case rel => exact ⟨k + 1, by omega, by go_num, hn2⟩
          case measure => simp [intOf]; omega
        | true =>
          have hf := HF.out t k hs.out hlt (by have := beq_iff_eq.1 hb; omega) hn.out
          have hi0 : (0 : Int) ≤ (k : Int) := by omega
          have hi1 : (k : Int) ≤ (t.size : Int) := by omega
          have hi2 : (k : Int) + 1 ≤ (t.size : Int) := by omega
          have hi3 : IntKind.i64.wrap ((k : Int) + 1) = (k : Int) + 1 := IntWalk.i64_in _ (by omega)
          have hz1 : (t.extract 0 k).size ≤ 1000000 := by rw [Lib.size_eq, Lib.extract_data]; simp; omega
          have hz2 : (t.extract (k + 1) t.size).size ≤ 1000000 := by rw [Lib.size_eq, Lib.extract_data]; simp; omega
          replace hf := Lib.hid hf
          go_wp2_with fail
          go_region
          have q1 : Hid (B3 (((W0.setCell ⟨w.heap.size + 1, 1, none⟩ (.string (t.extract 0 k))).setCell ⟨w.heap.size + 1, 2, none⟩ (.string (t.extract (k + 1) t.size))).drew) w.heap.size false ⟨#[]⟩ ⟨#[]⟩) := (q0.out.other (p := ⟨w.heap.size + 1, 1, none⟩) (by simp) _).other (p := ⟨w.heap.size + 1, 2, none⟩) (by simp) _
          have r1 : Hid (B3 (((W0.setCell ⟨w.heap.size + 1, 1, none⟩ (.string (t.extract 0 k))).setCell ⟨w.heap.size + 1, 2, none⟩ (.string (t.extract (k + 1) t.size))).drew) (w.heap.size + 1) false (t.extract 0 k) (t.extract (k + 1) t.size)) := (r0.out.set1 _).set2 _
          have hB1 : Hid (Below w.heap.size w (((W0.setCell ⟨w.heap.size + 1, 1, none⟩ (.string (t.extract 0 k))).setCell ⟨w.heap.size + 1, 2, none⟩ (.string (t.extract (k + 1) t.size))).drew)) := ((hB0.out.setCell (by simp) _).setCell (by simp) _).drew
          obtain ⟨W1, hW1⟩ : ∃ W, W = ((W0.setCell ⟨w.heap.size + 1, 1, none⟩ (.string (t.extract 0 k))).setCell ⟨w.heap.size + 1, 2, none⟩ (.string (t.extract (k + 1) t.size))).drew := ⟨_, rfl⟩
          rw [← hW1] at q1 r1 hB1 ⊢
          clear hW1 hb
          replace hf := hf.out
          generalize t.extract 0 k = nn at *
          generalize t.extract (k + 1) t.size = dd at *
          clear a1 a2 a3 a4 a5 a6 a7 b1 b2 b3 b4 b5 b6 b7
          obtain ⟨b1, b2, b3, b4, b5, b6⟩ := r1.out.facts
          have b7 := r1.out.lt
          cases hd : (dd.toList == [49]) with
          | true =>
            rw [hd] at hf
            simp only [if_true] at hf
            replace hf := Lib.hid hf
            obtain ⟨a1, a2, a3, a4, a5, a6⟩ := q1.out.facts
            have a7 := q1.out.lt
            go_wp2
            refine bodyPost_ret (v := .tuple #[.agg #[.bool false, .string ⟨#[]⟩, .string ⟨#[]⟩], .int .i64 5]) (by simp [results, Tryz.results34, go_sem, a1, a2, a3]) rfl ⟨by first | (rw [hf.out]; done) | (rw [hf.out]; rfl), ?_⟩
            repeat refine Below.setCell ?_ (by simp only []; omega) _
            exact hB1.out
          | false =>
            rw [hd] at hf
            simp only [Bool.false_eq_true, if_false] at hf
            obtain ⟨a1, a2, a3, a4, a5, a6⟩ := q1.out.facts
            have a7 := q1.out.lt
            cases hv : validB false nn dd with
            | false =>
              rw [hv] at hf
              simp only [Bool.false_eq_true, if_false] at hf
              replace hf := Lib.hid hf
              have kv := fun W => RRValid_any false nn dd W (by omega) (by omega)
              rw [hv] at kv
              replace kv := Lib.hid kv
              clear hv
              go_wp2_with fail
              refine (kv.out _).mono ?_
              rintro e w9 ⟨rfl, hb⟩
              have q9 := Lib.hid (q1.out.below hb)
              have r9 := Lib.hid (r1.out.below hb)
              have hB9 := Lib.hid (hB1.out.trans (hb.mono hB1.out.size))
              clear hb a1 a2 a3 a4 a5 a6 a7 b1 b2 b3 b4 b5 b6 b7
              obtain ⟨b1, b2, b3, b4, b5, b6⟩ := r9.out.facts
              have b7 := r9.out.lt
              obtain ⟨a1, a2, a3, a4, a5, a6⟩ := q9.out.facts
              have a7 := q9.out.lt
              go_wp2
              refine bodyPost_ret (v := .tuple #[.agg #[.bool false, .string ⟨#[]⟩, .string ⟨#[]⟩], .int .i64 5]) (by simp [results, Tryz.results34, go_sem, a1, a2, a3]) rfl ⟨by first | (rw [hf.out]; done) | (rw [hf.out]; rfl), ?_⟩
              repeat refine Below.setCell ?_ (by simp only []; omega) _
              exact hB9.out
            | true =>
              rw [hv] at hf
              simp only [if_true] at hf
              replace hf := Lib.hid hf
              have kv := fun W => RRValid_any false nn dd W (by omega) (by omega)
              rw [hv] at kv
              replace kv := Lib.hid kv
              clear hv
              go_wp2_with fail
              refine (kv.out _).mono ?_
              rintro e w9 ⟨rfl, hb⟩
              have q9 := Lib.hid (q1.out.below hb)
              have r9 := Lib.hid (r1.out.below hb)
              have hB9 := Lib.hid (hB1.out.trans (hb.mono hB1.out.size))
              clear hb a1 a2 a3 a4 a5 a6 a7 b1 b2 b3 b4 b5 b6 b7
              obtain ⟨b1, b2, b3, b4, b5, b6⟩ := r9.out.facts
              have b7 := r9.out.lt
              obtain ⟨a1, a2, a3, a4, a5, a6⟩ := q9.out.facts
              have a7 := q9.out.lt
              go_wp2
              refine bodyPost_ret (v := .tuple #[.agg #[.bool false, .string nn, .string dd], .int .i64 0]) (by simp [results, Tryz.results34, go_sem, a1, a2, a3]) rfl ⟨by first | (rw [hf.out]; done) | (rw [hf.out]; rfl), ?_⟩
              repeat refine Below.setCell ?_ (by simp only []; omega) _
              exact hB9.out
      · obtain rfl : k = t.size := by omega
        have hf := HN.out t hs.out hn.out
        cases hv : validB false t ⟨#[49]⟩ with
        | false =>
          rw [hv] at hf
          simp only [Bool.false_eq_true, if_false] at hf
          replace hf := Lib.hid hf
          have kv := fun W => RRValid_any false t ⟨#[49]⟩ W (by omega) (by decide)
          rw [hv] at kv
          replace kv := Lib.hid kv
          clear hv
          go_wp2_with fail
          refine (kv.out _).mono ?_
          rintro e w9 ⟨rfl, hb⟩
          have q9 := Lib.hid (q0.out.below hb)
          have r9 := Lib.hid (r0.out.below hb)
          have hB9 := Lib.hid (hB0.out.trans (hb.mono hB0.out.size))
          clear hb a1 a2 a3 a4 a5 a6 a7 b1 b2 b3 b4 b5 b6 b7
          obtain ⟨b1, b2, b3, b4, b5, b6⟩ := r9.out.facts
          have b7 := r9.out.lt
          obtain ⟨a1, a2, a3, a4, a5, a6⟩ := q9.out.facts
          have a7 := q9.out.lt
          go_wp2
          refine bodyPost_ret (v := .tuple #[.agg #[.bool false, .string ⟨#[]⟩, .string ⟨#[]⟩], .int .i64 5]) (by simp [results, Tryz.results34, go_sem, a1, a2, a3]) rfl ⟨by first | (rw [hf.out]; done) | (rw [hf.out]; rfl), ?_⟩
          repeat refine Below.setCell ?_ (by simp only []; omega) _
          exact hB9.out
        | true =>
          rw [hv] at hf
          simp only [if_true] at hf
          replace hf := Lib.hid hf
          have kv := fun W => RRValid_any false t ⟨#[49]⟩ W (by omega) (by decide)
          rw [hv] at kv
          replace kv := Lib.hid kv
          clear hv
          go_wp2_with fail
          refine (kv.out _).mono ?_
          rintro e w9 ⟨rfl, hb⟩
          have q9 := Lib.hid (q0.out.below hb)
          have r9 := Lib.hid (r0.out.below hb)
          have hB9 := Lib.hid (hB0.out.trans (hb.mono hB0.out.size))
          clear hb a1 a2 a3 a4 a5 a6 a7 b1 b2 b3 b4 b5 b6 b7
          obtain ⟨b1, b2, b3, b4, b5, b6⟩ := r9.out.facts
          have b7 := r9.out.lt
          obtain ⟨a1, a2, a3, a4, a5, a6⟩ := q9.out.facts
          have a7 := q9.out.lt
          go_wp2
          refine bodyPost_ret (v := .tuple #[.agg #[.bool false, .string t, .string ⟨#[49]⟩], .int .i64 0]) (by simp [results, Tryz.results34, go_sem, a1, a2, a3]) rfl ⟨by first | (rw [hf.out]; done) | (rw [hf.out]; rfl), ?_⟩
          repeat refine Below.setCell ?_ (by simp only []; omega) _
          exact hB9.out
  · go_enter Tryz.func34, Tryz.ntmps34
    go_wp2
    have hs := HD0.out trivial
    replace hs := Lib.hid hs
    clear h1
    have q0 : Hid (B3 ((w.alloc (.cells #[.bool false, .string ⟨#[]⟩, .string ⟨#[]⟩] 23)).alloc (.cells #[.bool false, .string t, .string ⟨#[49]⟩] 23)) w.heap.size false ⟨#[]⟩ ⟨#[]⟩) := (B3.new w _ _ _).alloc _
    have r0 : Hid (B3 ((w.alloc (.cells #[.bool false, .string ⟨#[]⟩, .string ⟨#[]⟩] 23)).alloc (.cells #[.bool false, .string t, .string ⟨#[49]⟩] 23)) (w.heap.size + 1) false t ⟨#[49]⟩) := by
      have h := B3.new (w.alloc (.cells #[.bool false, .string ⟨#[]⟩, .string ⟨#[]⟩] 23)) false t ⟨#[49]⟩
      rwa [show (w.alloc (.cells #[.bool false, .string ⟨#[]⟩, .string ⟨#[]⟩] 23)).heap.size = w.heap.size + 1 by simp] at h
    have hB0 : Hid (Below w.heap.size w ((w.alloc (.cells #[.bool false, .string ⟨#[]⟩, .string ⟨#[]⟩] 23)).alloc (.cells #[.bool false, .string t, .string ⟨#[49]⟩] 23))) := ((Below.refl _ w).alloc (Nat.le_refl _) _).alloc (by simp) _
    obtain ⟨W0, hW0⟩ : ∃ W, W = (w.alloc (.cells #[.bool false, .string ⟨#[]⟩, .string ⟨#[]⟩] 23)).alloc (.cells #[.bool false, .string t, .string ⟨#[49]⟩] 23) := ⟨_, rfl⟩
    rw [← hW0] at q0 r0 hB0 ⊢
    clear hW0
    obtain ⟨a1, a2, a3, a4, a5, a6⟩ := q0.out.facts
    have a7 := q0.out.lt
    obtain ⟨b1, b2, b3, b4, b5, b6⟩ := r0.out.facts
    have b7 := r0.out.lt
    go_loop [5] (fun i => ∃ k : Nat, k ≤ t.size ∧ i = .int .i64 (k : Int) ∧ Hid (NoStroke t k)) (fun i => t.size - (intOf i).toNat)
    case atStart => exact ⟨0, Nat.zero_le _, rfl, NoStroke.zero _⟩
    case round =>
      obtain ⟨k, hk, rfl, hn⟩ := hrel
      by_cases hlt : k < t.size
      · cases hb : ((t[k].toNat : Int) == 47) with
        | false =>
          have hn2 := Lib.hid (hn.out.step hlt (fun e => by rw [e] at hb; cases hb))
          go_wp2
          go_round
          case rel => exact ⟨k + 1, by omega, by go_num, hn2⟩
          case measure => simp [intOf]; omega
        | true =>
          have hf := HF.out t k hs.out hlt (by have := beq_iff_eq.1 hb; omega) hn.out
          have hi0 : (0 : Int) ≤ (k : Int) := by omega
          have hi1 : (k : Int) ≤ (t.size : Int) := by omega
          have hi2 : (k : Int) + 1 ≤ (t.size : Int) := by omega
          have hi3 : IntKind.i64.wrap ((k : Int) + 1) = (k : Int) + 1 := IntWalk.i64_in _ (by omega)
          have hz1 : (t.extract 0 k).size ≤ 1000000 := by rw [Lib.size_eq, Lib.extract_data]; simp; omega
          have hz2 : (t.extract (k + 1) t.size).size ≤ 1000000 := by rw [Lib.size_eq, Lib.extract_data]; simp; omega
          replace hf := Lib.hid hf
          go_wp2_with fail
          go_region
          have q1 : Hid (B3 (((W0.setCell ⟨w.heap.size + 1, 1, none⟩ (.string (t.extract 0 k))).setCell ⟨w.heap.size + 1, 2, none⟩ (.string (t.extract (k + 1) t.size))).drew) w.heap.size false ⟨#[]⟩ ⟨#[]⟩) := (q0.out.other (p := ⟨w.heap.size + 1, 1, none⟩) (by simp) _).other (p := ⟨w.heap.size + 1, 2, none⟩) (by simp) _
          have r1 : Hid (B3 (((W0.setCell ⟨w.heap.size + 1, 1, none⟩ (.string (t.extract 0 k))).setCell ⟨w.heap.size + 1, 2, none⟩ (.string (t.extract (k + 1) t.size))).drew) (w.heap.size + 1) false (t.extract 0 k) (t.extract (k + 1) t.size)) := (r0.out.set1 _).set2 _
          have hB1 : Hid (Below w.heap.size w (((W0.setCell ⟨w.heap.size + 1, 1, none⟩ (.string (t.extract 0 k))).setCell ⟨w.heap.size + 1, 2, none⟩ (.string (t.extract (k + 1) t.size))).drew)) := ((hB0.out.setCell (by simp) _).setCell (by simp) _).drew
          obtain ⟨W1, hW1⟩ : ∃ W, W = ((W0.setCell ⟨w.heap.size + 1, 1, none⟩ (.string (t.extract 0 k))).setCell ⟨w.heap.size + 1, 2, none⟩ (.string (t.extract (k + 1) t.size))).drew := ⟨_, rfl⟩
          rw [← hW1] at q1 r1 hB1 ⊢
          clear hW1 hb
          replace hf := hf.out
          generalize t.extract 0 k = nn at *
          generalize t.extract (k + 1) t.size = dd at *
          clear a1 a2 a3 a4 a5 a6 a7 b1 b2 b3 b4 b5 b6 b7
          obtain ⟨b1, b2, b3, b4, b5, b6⟩ := r1.out.facts
          have b7 := r1.out.lt
          cases hd : (dd.toList == [49]) with
          | true =>
            rw [hd] at hf
            simp only [if_true] at hf
            replace hf := Lib.hid hf
            obtain ⟨a1, a2, a3, a4, a5, a6⟩ := q1.out.facts
            have a7 := q1.out.lt
            go_wp2
            refine bodyPost_ret (v := .tuple #[.agg #[.bool false, .string ⟨#[]⟩, .string ⟨#[]⟩], .int .i64 5]) (by simp [results, Tryz.results34, go_sem, a1, a2, a3]) rfl ⟨by first | (rw [hf.out]; done) | (rw [hf.out]; rfl), ?_⟩
            repeat refine Below.setCell ?_ (by simp only []; omega) _
            exact hB1.out
          | false =>
            rw [hd] at hf
            simp only [Bool.false_eq_true, if_false] at hf
            obtain ⟨a1, a2, a3, a4, a5, a6⟩ := q1.out.facts
            have a7 := q1.out.lt
            cases hv : validB false nn dd with
            | false =>
              rw [hv] at hf
              simp only [Bool.false_eq_true, if_false] at hf
              replace hf := Lib.hid hf
              have kv := fun W => RRValid_any false nn dd W (by omega) (by omega)
              rw [hv] at kv
              replace kv := Lib.hid kv
              clear hv
              go_wp2_with fail
              refine (kv.out _).mono ?_
              rintro e w9 ⟨rfl, hb⟩
              have q9 := Lib.hid (q1.out.below hb)
              have r9 := Lib.hid (r1.out.below hb)
              have hB9 := Lib.hid (hB1.out.trans (hb.mono hB1.out.size))
              clear hb a1 a2 a3 a4 a5 a6 a7 b1 b2 b3 b4 b5 b6 b7
              obtain ⟨b1, b2, b3, b4, b5, b6⟩ := r9.out.facts
              have b7 := r9.out.lt
              obtain ⟨a1, a2, a3, a4, a5, a6⟩ := q9.out.facts
              have a7 := q9.out.lt
              go_wp2
              refine bodyPost_ret (v := .tuple #[.agg #[.bool false, .string ⟨#[]⟩, .string ⟨#[]⟩], .int .i64 5]) (by simp [results, Tryz.results34, go_sem, a1, a2, a3]) rfl ⟨by first | (rw [hf.out]; done) | (rw [hf.out]; rfl), ?_⟩
              repeat refine Below.setCell ?_ (by simp only []; omega) _
              exact hB9.out
            | true =>
              rw [hv] at hf
              simp only [if_true] at hf
              replace hf := Lib.hid hf
              have kv := fun W => RRValid_any false nn dd W (by omega) (by omega)
              rw [hv] at kv
              replace kv := Lib.hid kv
              clear hv
              go_wp2_with fail
              refine (kv.out _).mono ?_
              rintro e w9 ⟨rfl, hb⟩
              have q9 := Lib.hid (q1.out.below hb)
              have r9 := Lib.hid (r1.out.below hb)
              have hB9 := Lib.hid (hB1.out.trans (hb.mono hB1.out.size))
              clear hb a1 a2 a3 a4 a5 a6 a7 b1 b2 b3 b4 b5 b6 b7
              obtain ⟨b1, b2, b3, b4, b5, b6⟩ := r9.out.facts
              have b7 := r9.out.lt
              obtain ⟨a1, a2, a3, a4, a5, a6⟩ := q9.out.facts
              have a7 := q9.out.lt
              go_wp2
              refine bodyPost_ret (v := .tuple #[.agg #[.bool false, .string nn, .string dd], .int .i64 0]) (by simp [results, Tryz.results34, go_sem, a1, a2, a3]) rfl ⟨by first | (rw [hf.out]; done) | (rw [hf.out]; rfl), ?_⟩
              repeat refine Below.setCell ?_ (by simp only []; omega) _
              exact hB9.out
      · obtain rfl : k = t.size := by omega
        have hf := HN.out t hs.out hn.out
        cases hv : validB false t ⟨#[49]⟩ with
        | false =>
          rw [hv] at hf
          simp only [Bool.false_eq_true, if_false] at hf
          replace hf := Lib.hid hf
          have kv := fun W => RRValid_any false t ⟨#[49]⟩ W (by omega) (by decide)
          rw [hv] at kv
          replace kv := Lib.hid kv
          clear hv
          go_wp2_with fail
          refine (kv.out _).mono ?_
          rintro e w9 ⟨rfl, hb⟩
          have q9 := Lib.hid (q0.out.below hb)
          have r9 := Lib.hid (r0.out.below hb)
          have hB9 := Lib.hid (hB0.out.trans (hb.mono hB0.out.size))
          clear hb a1 a2 a3 a4 a5 a6 a7 b1 b2 b3 b4 b5 b6 b7
          obtain ⟨b1, b2, b3, b4, b5, b6⟩ := r9.out.facts
          have b7 := r9.out.lt
          obtain ⟨a1, a2, a3, a4, a5, a6⟩ := q9.out.facts
          have a7 := q9.out.lt
          go_wp2
          refine bodyPost_ret (v := .tuple #[.agg #[.bool false, .string ⟨#[]⟩, .string ⟨#[]⟩], .int .i64 5]) (by simp [results, Tryz.results34, go_sem, a1, a2, a3]) rfl ⟨by first | (rw [hf.out]; done) | (rw [hf.out]; rfl), ?_⟩
          repeat refine Below.setCell ?_ (by simp only []; omega) _
          exact hB9.out
        | true =>
          rw [hv] at hf
          simp only [if_true] at hf
          replace hf := Lib.hid hf
          have kv := fun W => RRValid_any false t ⟨#[49]⟩ W (by omega) (by decide)
          rw [hv] at kv
          replace kv := Lib.hid kv
          clear hv
          go_wp2_with fail
          refine (kv.out _).mono ?_
          rintro e w9 ⟨rfl, hb⟩
          have q9 := Lib.hid (q0.out.below hb)
          have r9 := Lib.hid (r0.out.below hb)
          have hB9 := Lib.hid (hB0.out.trans (hb.mono hB0.out.size))
          clear hb a1 a2 a3 a4 a5 a6 a7 b1 b2 b3 b4 b5 b6 b7
          obtain ⟨b1, b2, b3, b4, b5, b6⟩ := r9.out.facts
          have b7 := r9.out.lt
          obtain ⟨a1, a2, a3, a4, a5, a6⟩ := q9.out.facts
          have a7 := q9.out.lt
          go_wp2
          refine bodyPost_ret (v := .tuple #[.agg #[.bool false, .string t, .string ⟨#[49]⟩], .int .i64 0]) (by simp [results, Tryz.results34, go_sem, a1, a2, a3]) rfl ⟨by first | (rw [hf.out]; done) | (rw [hf.out]; rfl), ?_⟩
          repeat refine Below.setCell ?_ (by simp only []; omega) _
          exact hB9.out
  · go_enter Tryz.func34, Tryz.ntmps34
    go_wp2
    have hs := HD1.out trivial
    have hsz := HP.out _ hs
    clear h1
    generalize t.extract 1 t.size = s at *
    replace hs := Lib.hid hs
    have q0 : Hid (B3 ((w.alloc (.cells #[.bool false, .string ⟨#[]⟩, .string ⟨#[]⟩] 23)).alloc (.cells #[.bool true, .string s, .string ⟨#[49]⟩] 23)) w.heap.size false ⟨#[]⟩ ⟨#[]⟩) := (B3.new w _ _ _).alloc _
    have r0 : Hid (B3 ((w.alloc (.cells #[.bool false, .string ⟨#[]⟩, .string ⟨#[]⟩] 23)).alloc (.cells #[.bool true, .string s, .string ⟨#[49]⟩] 23)) (w.heap.size + 1) true s ⟨#[49]⟩) := by
      have h := B3.new (w.alloc (.cells #[.bool false, .string ⟨#[]⟩, .string ⟨#[]⟩] 23)) true s ⟨#[49]⟩
      rwa [show (w.alloc (.cells #[.bool false, .string ⟨#[]⟩, .string ⟨#[]⟩] 23)).heap.size = w.heap.size + 1 by simp] at h
    have hB0 : Hid (Below w.heap.size w ((w.alloc (.cells #[.bool false, .string ⟨#[]⟩, .string ⟨#[]⟩] 23)).alloc (.cells #[.bool true, .string s, .string ⟨#[49]⟩] 23))) := ((Below.refl _ w).alloc (Nat.le_refl _) _).alloc (by simp) _
    obtain ⟨W0, hW0⟩ : ∃ W, W = (w.alloc (.cells #[.bool false, .string ⟨#[]⟩, .string ⟨#[]⟩] 23)).alloc (.cells #[.bool true, .string s, .string ⟨#[49]⟩] 23) := ⟨_, rfl⟩
    rw [← hW0] at q0 r0 hB0 ⊢
    clear hW0
    obtain ⟨a1, a2, a3, a4, a5, a6⟩ := q0.out.facts
    have a7 := q0.out.lt
    obtain ⟨b1, b2, b3, b4, b5, b6⟩ := r0.out.facts
    have b7 := r0.out.lt
    go_loop [5] (fun i => ∃ k : Nat, k ≤ s.size ∧ i = .int .i64 (k : Int) ∧ Hid (NoStroke s k)) (fun i => s.size - (intOf i).toNat)
    case atStart => exact ⟨0, Nat.zero_le _, rfl, NoStroke.zero _⟩
    case round =>
      obtain ⟨k, hk, rfl, hn⟩ := hrel
      by_cases hlt : k < s.size
      · cases hb : ((s[k].toNat : Int) == 47) with
        | false =>
          have hn2 := Lib.hid (hn.out.step hlt (fun e => by rw [e] at hb; cases hb))
          go_wp2
          go_round
          case rel => exact ⟨k + 1, by omega, by go_num, hn2⟩
          case measure => simp [intOf]; omega
        | true =>
          have hf := HF.out s k hs.out hlt (by have := beq_iff_eq.1 hb; omega) hn.out
          have hi0 : (0 : Int) ≤ (k : Int) := by omega
          have hi1 : (k : Int) ≤ (s.size : Int) := by omega
          have hi2 : (k : Int) + 1 ≤ (s.size : Int) := by omega
          have hi3 : IntKind.i64.wrap ((k : Int) + 1) = (k : Int) + 1 := IntWalk.i64_in _ (by omega)
          have hz1 : (s.extract 0 k).size ≤ 1000000 := by rw [Lib.size_eq, Lib.extract_data]; simp; omega
          have hz2 : (s.extract (k + 1) s.size).size ≤ 1000000 := by rw [Lib.size_eq, Lib.extract_data]; simp; omega
          replace hf := Lib.hid hf
          go_wp2_with fail
          go_region
          have q1 : Hid (B3 (((W0.setCell ⟨w.heap.size + 1, 1, none⟩ (.string (s.extract 0 k))).setCell ⟨w.heap.size + 1, 2, none⟩ (.string (s.extract (k + 1) s.size))).drew) w.heap.size false ⟨#[]⟩ ⟨#[]⟩) := (q0.out.other (p := ⟨w.heap.size + 1, 1, none⟩) (by simp) _).other (p := ⟨w.heap.size + 1, 2, none⟩) (by simp) _
          have r1 : Hid (B3 (((W0.setCell ⟨w.heap.size + 1, 1, none⟩ (.string (s.extract 0 k))).setCell ⟨w.heap.size + 1, 2, none⟩ (.string (s.extract (k + 1) s.size))).drew) (w.heap.size + 1) true (s.extract 0 k) (s.extract (k + 1) s.size)) := (r0.out.set1 _).set2 _
          have hB1 : Hid (Below w.heap.size w (((W0.setCell ⟨w.heap.size + 1, 1, none⟩ (.string (s.extract 0 k))).setCell ⟨w.heap.size + 1, 2, none⟩ (.string (s.extract (k + 1) s.size))).drew)) := ((hB0.out.setCell (by simp) _).setCell (by simp) _).drew
          obtain ⟨W1, hW1⟩ : ∃ W, W = ((W0.setCell ⟨w.heap.size + 1, 1, none⟩ (.string (s.extract 0 k))).setCell ⟨w.heap.size + 1, 2, none⟩ (.string (s.extract (k + 1) s.size))).drew := ⟨_, rfl⟩
          rw [← hW1] at q1 r1 hB1 ⊢
          clear hW1 hb
          replace hf := hf.out
          generalize s.extract 0 k = nn at *
          generalize s.extract (k + 1) s.size = dd at *
          clear a1 a2 a3 a4 a5 a6 a7 b1 b2 b3 b4 b5 b6 b7
          obtain ⟨b1, b2, b3, b4, b5, b6⟩ := r1.out.facts
          have b7 := r1.out.lt
          cases hd : (dd.toList == [49]) with
          | true =>
            rw [hd] at hf
            simp only [if_true] at hf
            replace hf := Lib.hid hf
            obtain ⟨a1, a2, a3, a4, a5, a6⟩ := q1.out.facts
            have a7 := q1.out.lt
            go_wp2
            refine bodyPost_ret (v := .tuple #[.agg #[.bool false, .string ⟨#[]⟩, .string ⟨#[]⟩], .int .i64 5]) (by simp [results, Tryz.results34, go_sem, a1, a2, a3]) rfl ⟨by first | (rw [hf.out]; done) | (rw [hf.out]; rfl), ?_⟩
            repeat refine Below.setCell ?_ (by simp only []; omega) _
            exact hB1.out
          | false =>
            rw [hd] at hf
            simp only [Bool.false_eq_true, if_false] at hf
            obtain ⟨a1, a2, a3, a4, a5, a6⟩ := q1.out.facts
            have a7 := q1.out.lt
            cases hv : validB true nn dd with
            | false =>
              rw [hv] at hf
              simp only [Bool.false_eq_true, if_false] at hf
              replace hf := Lib.hid hf
              have kv := fun W => RRValid_any true nn dd W (by omega) (by omega)
              rw [hv] at kv
              replace kv := Lib.hid kv
              clear hv
              go_wp2_with fail
              refine (kv.out _).mono ?_
              rintro e w9 ⟨rfl, hb⟩
              have q9 := Lib.hid (q1.out.below hb)
              have r9 := Lib.hid (r1.out.below hb)
              have hB9 := Lib.hid (hB1.out.trans (hb.mono hB1.out.size))
              clear hb a1 a2 a3 a4 a5 a6 a7 b1 b2 b3 b4 b5 b6 b7
              obtain ⟨b1, b2, b3, b4, b5, b6⟩ := r9.out.facts
              have b7 := r9.out.lt
              obtain ⟨a1, a2, a3, a4, a5, a6⟩ := q9.out.facts
              have a7 := q9.out.lt
              go_wp2
              refine bodyPost_ret (v := .tuple #[.agg #[.bool false, .string ⟨#[]⟩, .string ⟨#[]⟩], .int .i64 5]) (by simp [results, Tryz.results34, go_sem, a1, a2, a3]) rfl ⟨by first | (rw [hf.out]; done) | (rw [hf.out]; rfl), ?_⟩
              repeat refine Below.setCell ?_ (by simp only []; omega) _
              exact hB9.out
            | true =>
              rw [hv] at hf
              simp only [if_true] at hf
              replace hf := Lib.hid hf
              have kv := fun W => RRValid_any true nn dd W (by omega) (by omega)
              rw [hv] at kv
              replace kv := Lib.hid kv
              clear hv
              go_wp2_with fail
              refine (kv.out _).mono ?_
              rintro e w9 ⟨rfl, hb⟩
              have q9 := Lib.hid (q1.out.below hb)
              have r9 := Lib.hid (r1.out.below hb)
              have hB9 := Lib.hid (hB1.out.trans (hb.mono hB1.out.size))
              clear hb a1 a2 a3 a4 a5 a6 a7 b1 b2 b3 b4 b5 b6 b7
              obtain ⟨b1, b2, b3, b4, b5, b6⟩ := r9.out.facts
              have b7 := r9.out.lt
              obtain ⟨a1, a2, a3, a4, a5, a6⟩ := q9.out.facts
              have a7 := q9.out.lt
              go_wp2
              refine bodyPost_ret (v := .tuple #[.agg #[.bool true, .string nn, .string dd], .int .i64 0]) (by simp [results, Tryz.results34, go_sem, a1, a2, a3]) rfl ⟨by first | (rw [hf.out]; done) | (rw [hf.out]; rfl), ?_⟩
              repeat refine Below.setCell ?_ (by simp only []; omega) _
              exact hB9.out
      · obtain rfl : k = s.size := by omega
        have hf := HN.out s hs.out hn.out
        cases hv : validB true s ⟨#[49]⟩ with
        | false =>
          rw [hv] at hf
          simp only [Bool.false_eq_true, if_false] at hf
          replace hf := Lib.hid hf
          have kv := fun W => RRValid_any true s ⟨#[49]⟩ W (by omega) (by decide)
          rw [hv] at kv
          replace kv := Lib.hid kv
          clear hv
          go_wp2_with fail
          refine (kv.out _).mono ?_
          rintro e w9 ⟨rfl, hb⟩
          have q9 := Lib.hid (q0.out.below hb)
          have r9 := Lib.hid (r0.out.below hb)
          have hB9 := Lib.hid (hB0.out.trans (hb.mono hB0.out.size))
          clear hb a1 a2 a3 a4 a5 a6 a7 b1 b2 b3 b4 b5 b6 b7
          obtain ⟨b1, b2, b3, b4, b5, b6⟩ := r9.out.facts
          have b7 := r9.out.lt
          obtain ⟨a1, a2, a3, a4, a5, a6⟩ := q9.out.facts
          have a7 := q9.out.lt
          go_wp2
          refine bodyPost_ret (v := .tuple #[.agg #[.bool false, .string ⟨#[]⟩, .string ⟨#[]⟩], .int .i64 5]) (by simp [results, Tryz.results34, go_sem, a1, a2, a3]) rfl ⟨by first | (rw [hf.out]; done) | (rw [hf.out]; rfl), ?_⟩
          repeat refine Below.setCell ?_ (by simp only []; omega) _
          exact hB9.out
        | true =>
          rw [hv] at hf
          simp only [if_true] at hf
          replace hf := Lib.hid hf
          have kv := fun W => RRValid_any true s ⟨#[49]⟩ W (by omega) (by decide)
          rw [hv] at kv
          replace kv := Lib.hid kv
          clear hv
          go_wp2_with fail
          refine (kv.out _).mono ?_
          rintro e w9 ⟨rfl, hb⟩
          have q9 := Lib.hid (q0.out.below hb)
          have r9 := Lib.hid (r0.out.below hb)
          have hB9 := Lib.hid (hB0.out.trans (hb.mono hB0.out.size))
          clear hb a1 a2 a3 a4 a5 a6 a7 b1 b2 b3 b4 b5 b6 b7
          obtain ⟨b1, b2, b3, b4, b5, b6⟩ := r9.out.facts
          have b7 := r9.out.lt
          obtain ⟨a1, a2, a3, a4, a5, a6⟩ := q9.out.facts
          have a7 := q9.out.lt
          go_wp2
          refine bodyPost_ret (v := .tuple #[.agg #[.bool true, .string s, .string ⟨#[49]⟩], .int .i64 0]) (by simp [results, Tryz.results34, go_sem, a1, a2, a3]) rfl ⟨by first | (rw [hf.out]; done) | (rw [hf.out]; rfl), ?_⟩
          repeat refine Below.setCell ?_ (by simp only []; omega) _
          exact hB9.out

end Nt
end Go.Proofs.YtjahnkeafaebdaaGreatDoor

namespace Go.Proofs.YtjahnkeafaebdaaGreatDoor
open Go.RowKit Go.Shelf
namespace Nt

theorem both_add (g1 g2 : Bool) (n1 d1 n2 d2 : ByteArray) (s1 : n1.size ≤ 140737488355328) (s2 : d1.size ≤ 140737488355328) (s3 : n2.size ≤ 140737488355328) (s4 : d2.size ≤ 140737488355328) : ∃ (r : Bool) (x y : ByteArray) (E : Int), (∀ W, Env W → Calls Tryz.prog 18 #[.agg #[.bool g1, .string n1, .string d1], .agg #[.bool g2, .string n2, .string d2]] W fun e w' => e = .returned (.tuple #[.agg #[.bool r, .string x, .string y], .int .i64 E]) ∧ Below W.heap.size W w') ∧ (∀ W, Calls Tryz.prog 19 #[.agg #[.bool g1, .string n1, .string d1], .agg #[.bool g2, .string n2, .string d2]] W fun e w' => e = .returned (.tuple #[.agg #[.bool r, .string x, .string y], .int .i64 E]) ∧ Below W.heap.size W w') := by
  by_cases hv : validB g1 n1 d1 = true ∧ validB g2 n2 d2 = true
  · obtain ⟨p, Op, rfl, rfl, rfl⟩ := of_valid hv.1
    obtain ⟨q, Oq, rfl, rfl, rfl⟩ := of_valid hv.2
    by_cases hl : ShortQ p ∧ ShortQ q
    · exact ⟨_, _, _, _, fun W hW => Add_short p q hl.1 hl.2 W hW, fun W => RRAdd_short p q hl.1 hl.2 W⟩
    · exact ⟨_, _, _, _, fun W hW => Add_long p q Op Oq hl W hW, fun W => RRAdd_long p q Op Oq hl W⟩
  · have hb : validB g1 n1 d1 = false ∨ validB g2 n2 d2 = false := by
      cases h1 : validB g1 n1 d1 with
      | false => exact .inl rfl
      | true =>
        cases h2 : validB g2 n2 d2 with
        | false => exact .inr rfl
        | true => exact absurd ⟨h1, h2⟩ hv
    exact ⟨_, _, _, _, fun W hW => Add_bad g1 g2 n1 d1 n2 d2 W hW s1 s2 s3 s4 hb, fun W => RRAdd_bad g1 g2 n1 d1 n2 d2 W s1 s2 s3 s4 hb⟩

theorem both_sub (g1 g2 : Bool) (n1 d1 n2 d2 : ByteArray) (s1 : n1.size ≤ 140737488355328) (s2 : d1.size ≤ 140737488355328) (s3 : n2.size ≤ 140737488355328) (s4 : d2.size ≤ 140737488355328) : ∃ (r : Bool) (x y : ByteArray) (E : Int), (∀ W, Env W → Calls Tryz.prog 21 #[.agg #[.bool g1, .string n1, .string d1], .agg #[.bool g2, .string n2, .string d2]] W fun e w' => e = .returned (.tuple #[.agg #[.bool r, .string x, .string y], .int .i64 E]) ∧ Below W.heap.size W w') ∧ (∀ W, Calls Tryz.prog 22 #[.agg #[.bool g1, .string n1, .string d1], .agg #[.bool g2, .string n2, .string d2]] W fun e w' => e = .returned (.tuple #[.agg #[.bool r, .string x, .string y], .int .i64 E]) ∧ Below W.heap.size W w') := by
  by_cases hv : validB g1 n1 d1 = true ∧ validB g2 n2 d2 = true
  · obtain ⟨p, Op, rfl, rfl, rfl⟩ := of_valid hv.1
    obtain ⟨q, Oq, rfl, rfl, rfl⟩ := of_valid hv.2
    by_cases hl : ShortQ p ∧ ShortQ q
    · exact ⟨_, _, _, _, fun W hW => Sub_short p q hl.1 hl.2 W hW, fun W => RRSub_short p q hl.1 hl.2 W⟩
    · exact ⟨_, _, _, _, fun W hW => Sub_long p q Op Oq hl W hW, fun W => RRSub_long p q Op Oq hl W⟩
  · have hb : validB g1 n1 d1 = false ∨ validB g2 n2 d2 = false := by
      cases h1 : validB g1 n1 d1 with
      | false => exact .inl rfl
      | true =>
        cases h2 : validB g2 n2 d2 with
        | false => exact .inr rfl
        | true => exact absurd ⟨h1, h2⟩ hv
    exact ⟨_, _, _, _, fun W hW => Sub_bad g1 g2 n1 d1 n2 d2 W hW s1 s2 s3 s4 hb, fun W => RRSub_bad g1 g2 n1 d1 n2 d2 W s1 s2 s3 s4 hb⟩

theorem both_mul (g1 g2 : Bool) (n1 d1 n2 d2 : ByteArray) (s1 : n1.size ≤ 140737488355328) (s2 : d1.size ≤ 140737488355328) (s3 : n2.size ≤ 140737488355328) (s4 : d2.size ≤ 140737488355328) : ∃ (r : Bool) (x y : ByteArray) (E : Int), (∀ W, Env W → Calls Tryz.prog 23 #[.agg #[.bool g1, .string n1, .string d1], .agg #[.bool g2, .string n2, .string d2]] W fun e w' => e = .returned (.tuple #[.agg #[.bool r, .string x, .string y], .int .i64 E]) ∧ Below W.heap.size W w') ∧ (∀ W, Calls Tryz.prog 24 #[.agg #[.bool g1, .string n1, .string d1], .agg #[.bool g2, .string n2, .string d2]] W fun e w' => e = .returned (.tuple #[.agg #[.bool r, .string x, .string y], .int .i64 E]) ∧ Below W.heap.size W w') := by
  by_cases hv : validB g1 n1 d1 = true ∧ validB g2 n2 d2 = true
  · obtain ⟨p, Op, rfl, rfl, rfl⟩ := of_valid hv.1
    obtain ⟨q, Oq, rfl, rfl, rfl⟩ := of_valid hv.2
    by_cases hl : ShortQ p ∧ ShortQ q
    · exact ⟨_, _, _, _, fun W hW => Mul_short p q hl.1 hl.2 W hW, fun W => RRMul_short p q hl.1 hl.2 W⟩
    · exact ⟨_, _, _, _, fun W hW => Mul_long p q Op Oq hl W hW, fun W => RRMul_long p q Op Oq hl W⟩
  · have hb : validB g1 n1 d1 = false ∨ validB g2 n2 d2 = false := by
      cases h1 : validB g1 n1 d1 with
      | false => exact .inl rfl
      | true =>
        cases h2 : validB g2 n2 d2 with
        | false => exact .inr rfl
        | true => exact absurd ⟨h1, h2⟩ hv
    exact ⟨_, _, _, _, fun W hW => Mul_bad g1 g2 n1 d1 n2 d2 W hW s1 s2 s3 s4 hb, fun W => RRMul_bad g1 g2 n1 d1 n2 d2 W s1 s2 s3 s4 hb⟩

theorem both_div (g1 g2 : Bool) (n1 d1 n2 d2 : ByteArray) (s1 : n1.size ≤ 140737488355328) (s2 : d1.size ≤ 140737488355328) (s3 : n2.size ≤ 140737488355328) (s4 : d2.size ≤ 140737488355328) : ∃ (r : Bool) (x y : ByteArray) (E : Int), (∀ W, Env W → Calls Tryz.prog 25 #[.agg #[.bool g1, .string n1, .string d1], .agg #[.bool g2, .string n2, .string d2]] W fun e w' => e = .returned (.tuple #[.agg #[.bool r, .string x, .string y], .int .i64 E]) ∧ Below W.heap.size W w') ∧ (∀ W, Calls Tryz.prog 26 #[.agg #[.bool g1, .string n1, .string d1], .agg #[.bool g2, .string n2, .string d2]] W fun e w' => e = .returned (.tuple #[.agg #[.bool r, .string x, .string y], .int .i64 E]) ∧ Below W.heap.size W w') := by
  by_cases hv : validB g1 n1 d1 = true ∧ validB g2 n2 d2 = true
  · obtain ⟨p, Op, rfl, rfl, rfl⟩ := of_valid hv.1
    obtain ⟨q, Oq, rfl, rfl, rfl⟩ := of_valid hv.2
    by_cases h0 : q = 0
    · subst h0
      exact ⟨_, _, _, _, fun W hW => Div_zero p Op W hW, fun W => RRDiv_zeroq p Op W⟩
    · by_cases hl : ShortQ p ∧ ShortQ q
      · exact ⟨_, _, _, _, fun W hW => Div_short p q hl.1 hl.2 h0 W hW, fun W => RRDiv_short p q hl.1 hl.2 h0 W⟩
      · exact ⟨_, _, _, _, fun W hW => Div_long p q Op Oq h0 hl W hW, fun W => RRDiv_long p q Op Oq h0 hl W⟩
  · have hb : validB g1 n1 d1 = false ∨ validB g2 n2 d2 = false := by
      cases h1 : validB g1 n1 d1 with
      | false => exact .inl rfl
      | true =>
        cases h2 : validB g2 n2 d2 with
        | false => exact .inr rfl
        | true => exact absurd ⟨h1, h2⟩ hv
    exact ⟨_, _, _, _, fun W hW => Div_bad g1 g2 n1 d1 n2 d2 W hW s1 s2 s3 s4 hb, fun W => RRDiv_bad g1 g2 n1 d1 n2 d2 W s1 s2 s3 s4 hb⟩

theorem both_cmp (g1 g2 : Bool) (n1 d1 n2 d2 : ByteArray) (s1 : n1.size ≤ 140737488355328) (s2 : d1.size ≤ 140737488355328) (s3 : n2.size ≤ 140737488355328) (s4 : d2.size ≤ 140737488355328) : ∃ (c E : Int), (∀ W, Env W → Calls Tryz.prog 16 #[.agg #[.bool g1, .string n1, .string d1], .agg #[.bool g2, .string n2, .string d2]] W fun e w' => e = .returned (.tuple #[.int .i64 c, .int .i64 E]) ∧ Below W.heap.size W w') ∧ (∀ W, Calls Tryz.prog 27 #[.agg #[.bool g1, .string n1, .string d1], .agg #[.bool g2, .string n2, .string d2]] W fun e w' => e = .returned (.tuple #[.int .i64 c, .int .i64 E]) ∧ Below W.heap.size W w') := by
  by_cases hv : validB g1 n1 d1 = true ∧ validB g2 n2 d2 = true
  · obtain ⟨p, Op, rfl, rfl, rfl⟩ := of_valid hv.1
    obtain ⟨q, Oq, rfl, rfl, rfl⟩ := of_valid hv.2
    by_cases hl : ShortQ p ∧ ShortQ q
    · exact ⟨_, _, fun W hW => Compare_short p q hl.1 hl.2 W hW, fun W => RRCompare_short p q hl.1 hl.2 W⟩
    · exact ⟨_, _, fun W hW => Compare_long p q Op Oq hl W hW, fun W => RRCompare_long p q Op Oq hl W⟩
  · have hb : validB g1 n1 d1 = false ∨ validB g2 n2 d2 = false := by
      cases h1 : validB g1 n1 d1 with
      | false => exact .inl rfl
      | true =>
        cases h2 : validB g2 n2 d2 with
        | false => exact .inr rfl
        | true => exact absurd ⟨h1, h2⟩ hv
    exact ⟨_, _, fun W hW => Compare_bad g1 g2 n1 d1 n2 d2 W hW s1 s2 s3 s4 hb, fun W => RRCompare_bad g1 g2 n1 d1 n2 d2 W s1 s2 s3 s4 hb⟩

theorem both_of (m n : Int) (hm0 : -9223372036854775808 ≤ m) (hm1 : m ≤ 9223372036854775807) (hn0 : -9223372036854775808 ≤ n) (hn1 : n ≤ 9223372036854775807) : ∃ (r : Bool) (x y : ByteArray) (E : Int), (∀ W, Env W → Calls Tryz.prog 11 #[.int .i64 m, .int .i64 n] W fun e w' => e = .returned (.tuple #[.agg #[.bool r, .string x, .string y], .int .i64 E]) ∧ Below W.heap.size W w') ∧ (∀ W, Calls Tryz.prog 17 #[.int .i64 m, .int .i64 n] W fun e w' => e = .returned (.tuple #[.agg #[.bool r, .string x, .string y], .int .i64 E]) ∧ Below W.heap.size W w') := by
  by_cases h0 : n = 0
  · subst h0
    exact ⟨_, _, _, _, fun W _ => Of_zero m W, fun W => RROf_zero m W⟩
  · exact ⟨_, _, _, _, fun W hW => RatOf_any m n hm0 hm1 hn0 hn1 h0 W hW, fun W => RROf_any m n hm0 hm1 hn0 hn1 h0 W⟩

set_option maxRecDepth 100000 in
theorem Floor_bad (g : Bool) (n d : ByteArray) (w : World) (hE : Env w) (sn : n.size ≤ 140737488355328) (sd : d.size ≤ 140737488355328) (hv : validB g n d = false) :
    Calls Tryz.prog 12 #[.agg #[.bool g, .string n, .string d]] w fun e w' => e = .returned (.tuple #[.int .i64 0, .int .i64 1]) ∧ Below w.heap.size w w' := by
  replace hE := Lib.hid hE
  replace hv := Lib.hid hv
  go_enter Tryz.func12, Tryz.ntmps12
  go_wp2_with fail
  refine (Valid_any g n d _ (hE.out.below (one_below _ _)) sn sd).mono ?_
  rintro e w1 ⟨rfl, hb1⟩
  rw [hv.out]
  have hB1 := Lib.hid ((one_below w (.cells #[.bool g, .string n, .string d] 23)).trans (hb1.mono (by simp)))
  clear hb1
  go_wp2
  go_ret2
  exact ⟨rfl, hB1.out⟩

theorem both_floor (g1 : Bool) (n1 d1 : ByteArray) (s1 : n1.size ≤ 140737488355328) (s2 : d1.size ≤ 140737488355328) : ∃ (i E : Int), (∀ W, Env W → Calls Tryz.prog 12 #[.agg #[.bool g1, .string n1, .string d1]] W fun e w' => e = .returned (.tuple #[.int .i64 i, .int .i64 E]) ∧ Below W.heap.size W w') ∧ (∀ W, Calls Tryz.prog 28 #[.agg #[.bool g1, .string n1, .string d1]] W fun e w' => e = .returned (.tuple #[.int .i64 i, .int .i64 E]) ∧ Below W.heap.size W w') := by
  cases hv : validB g1 n1 d1 with
  | true =>
    obtain ⟨p, Op, rfl, rfl, rfl⟩ := of_valid hv
    exact ⟨_, _, fun W hW => Floor_any p Op W hW, fun W => RRFloor_any p Op W⟩
  | false =>
    have lv := fun W => RRValid_any g1 n1 d1 W s1 s2
    rw [hv] at lv
    exact ⟨_, _, fun W hW => Floor_bad g1 n1 d1 W hW s1 s2 hv, fun W => RRFloor_bad g1 n1 d1 W lv⟩

end Nt
end Go.Proofs.YtjahnkeafaebdaaGreatDoor
