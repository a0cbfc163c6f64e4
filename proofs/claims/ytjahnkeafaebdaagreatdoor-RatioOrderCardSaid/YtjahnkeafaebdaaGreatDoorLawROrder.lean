/- RatioOrder: the law for every input. -/
import Derived.Test.YtjahnkeafaebdaaGreatDoorLawROrder0
import Derived.Test.YtjahnkeafaebdaaGreatDoorLawROrder1
import Derived.Test.YtjahnkeafaebdaaGreatDoorLawROrder2
namespace Go.Proofs.YtjahnkeafaebdaaGreatDoor
open Go.RowKit Go.Shelf
namespace Nt

set_option maxRecDepth 100000 in
set_option maxHeartbeats 4000000 in
theorem rorder_bad0 (g1 g2 g3 : Bool) (n1 d1 n2 d2 n3 d3 : ByteArray)  (w : World) (hE : REnv w) (hs : shortB 40 [(n1, d1), (n2, d2), (n3, d3)] = false) :
    Calls Tryz.prog 6 #[.agg #[.bool g1, .string n1, .string d1], .agg #[.bool g2, .string n2, .string d2], .agg #[.bool g3, .string n3, .string d3]] w fun e w' => e = .returned (.bool true) ∧ Below w.heap.size w w' := by
  replace hE := Lib.hid hE
  replace hs := Lib.hid hs
  go_enter Tryz.func6, Tryz.ntmps6
  go_wp2_with fail
  refine (rhead_any _ (hE.out.below (triW_below w g1 g2 g3 n1 d1 n2 d2 n3 d3))).mono ?_
  rintro e w0 ⟨rfl, hb⟩
  obtain ⟨qa, qb, qc⟩ := triW_boxes w g1 g2 g3 n1 d1 n2 d2 n3 d3
  replace qa := Lib.hid (qa.below hb)
  replace qb := Lib.hid (qb.below hb)
  replace qc := Lib.hid (qc.below hb)
  have hB := Lib.hid ((triW_below w g1 g2 g3 n1 d1 n2 d2 n3 d3).trans (hb.mono (triW_below w g1 g2 g3 n1 d1 n2 d2 n3 d3).size))
  clear hb
  obtain ⟨a1, a2, a3, a4, a5, a6⟩ := qa.out.facts
  have a7 := qa.out.lt
  obtain ⟨b1, b2, b3, b4, b5, b6⟩ := qb.out.facts
  have b7 := qb.out.lt
  obtain ⟨c1, c2, c3, c4, c5, c6⟩ := qc.out.facts
  have c7 := qc.out.lt
  go_wp2_with fail
  refine (short_any 40 [(n1, d1), (n2, d2), (n3, d3)] w0.heap.size 3 _ (by simp) (raws3 w0 g1 g2 g3 n1 d1 n2 d2 n3 d3)).mono ?_
  rintro e w1 ⟨rfl, rfl⟩
  rw [hs.out]
  obtain ⟨w1, hw1⟩ : ∃ W, W = w0.alloc (.cells #[.bool g1, .string n1, .string d1, .bool g2, .string n2, .string d2, .bool g3, .string n3, .string d3] 23) := ⟨_, rfl⟩
  rw [← hw1]
  clear a1 a2 a3 a4 a5 a6 a7 b1 b2 b3 b4 b5 b6 b7 c1 c2 c3 c4 c5 c6 c7
  replace qa : Hid (B3 w1 w.heap.size g1 n1 d1) := by rw [hw1]; exact qa.out.alloc _
  replace qb : Hid (B3 w1 (w.heap.size + 1) g2 n2 d2) := by rw [hw1]; exact qb.out.alloc _
  replace qc : Hid (B3 w1 (w.heap.size + 1 + 1) g3 n3 d3) := by rw [hw1]; exact qc.out.alloc _
  replace hB : Hid (Below w.heap.size w w1) := by rw [hw1]; exact hB.out.alloc hB.out.size _
  clear hw1
  obtain ⟨a1, a2, a3, a4, a5, a6⟩ := qa.out.facts
  have a7 := qa.out.lt
  obtain ⟨b1, b2, b3, b4, b5, b6⟩ := qb.out.facts
  have b7 := qb.out.lt
  obtain ⟨c1, c2, c3, c4, c5, c6⟩ := qc.out.facts
  have c7 := qc.out.lt
  go_wp2
  go_ret
  exact ⟨rfl, hB.out⟩

set_option maxRecDepth 100000 in
set_option maxHeartbeats 4000000 in
theorem rorder_bad1 (g1 g2 g3 : Bool) (n1 d1 n2 d2 n3 d3 : ByteArray) (sn1 : n1.size ≤ 140737488355328) (sd1 : d1.size ≤ 140737488355328) (w : World) (hE : REnv w) (hs : shortB 40 [(n1, d1), (n2, d2), (n3, d3)] = true) (v1 : validB g1 n1 d1 = false) :
    Calls Tryz.prog 6 #[.agg #[.bool g1, .string n1, .string d1], .agg #[.bool g2, .string n2, .string d2], .agg #[.bool g3, .string n3, .string d3]] w fun e w' => e = .returned (.bool true) ∧ Below w.heap.size w w' := by
  replace hE := Lib.hid hE
  replace hs := Lib.hid hs
  replace v1 := Lib.hid v1
  go_enter Tryz.func6, Tryz.ntmps6
  go_wp2_with fail
  refine (rhead_any _ (hE.out.below (triW_below w g1 g2 g3 n1 d1 n2 d2 n3 d3))).mono ?_
  rintro e w0 ⟨rfl, hb⟩
  obtain ⟨qa, qb, qc⟩ := triW_boxes w g1 g2 g3 n1 d1 n2 d2 n3 d3
  replace qa := Lib.hid (qa.below hb)
  replace qb := Lib.hid (qb.below hb)
  replace qc := Lib.hid (qc.below hb)
  have hB := Lib.hid ((triW_below w g1 g2 g3 n1 d1 n2 d2 n3 d3).trans (hb.mono (triW_below w g1 g2 g3 n1 d1 n2 d2 n3 d3).size))
  clear hb
  obtain ⟨a1, a2, a3, a4, a5, a6⟩ := qa.out.facts
  have a7 := qa.out.lt
  obtain ⟨b1, b2, b3, b4, b5, b6⟩ := qb.out.facts
  have b7 := qb.out.lt
  obtain ⟨c1, c2, c3, c4, c5, c6⟩ := qc.out.facts
  have c7 := qc.out.lt
  go_wp2_with fail
  refine (short_any 40 [(n1, d1), (n2, d2), (n3, d3)] w0.heap.size 3 _ (by simp) (raws3 w0 g1 g2 g3 n1 d1 n2 d2 n3 d3)).mono ?_
  rintro e w1 ⟨rfl, rfl⟩
  rw [hs.out]
  obtain ⟨w1, hw1⟩ : ∃ W, W = w0.alloc (.cells #[.bool g1, .string n1, .string d1, .bool g2, .string n2, .string d2, .bool g3, .string n3, .string d3] 23) := ⟨_, rfl⟩
  rw [← hw1]
  clear a1 a2 a3 a4 a5 a6 a7 b1 b2 b3 b4 b5 b6 b7 c1 c2 c3 c4 c5 c6 c7
  replace qa : Hid (B3 w1 w.heap.size g1 n1 d1) := by rw [hw1]; exact qa.out.alloc _
  replace qb : Hid (B3 w1 (w.heap.size + 1) g2 n2 d2) := by rw [hw1]; exact qb.out.alloc _
  replace qc : Hid (B3 w1 (w.heap.size + 1 + 1) g3 n3 d3) := by rw [hw1]; exact qc.out.alloc _
  replace hB : Hid (Below w.heap.size w w1) := by rw [hw1]; exact hB.out.alloc hB.out.size _
  clear hw1
  obtain ⟨a1, a2, a3, a4, a5, a6⟩ := qa.out.facts
  have a7 := qa.out.lt
  obtain ⟨b1, b2, b3, b4, b5, b6⟩ := qb.out.facts
  have b7 := qb.out.lt
  obtain ⟨c1, c2, c3, c4, c5, c6⟩ := qc.out.facts
  have c7 := qc.out.lt
  go_wp2_with fail
  have hBp := hB
  refine (Valid_any g1 n1 d1 _ (hE.out.below hBp.out).1 (by omega) (by omega)).mono ?_
  rintro e w2 ⟨rfl, hb⟩
  rw [v1.out]
  clear a1 a2 a3 a4 a5 a6 a7 b1 b2 b3 b4 b5 b6 b7 c1 c2 c3 c4 c5 c6 c7
  replace qa := Lib.hid (qa.out.below hb)
  replace qb := Lib.hid (qb.out.below hb)
  replace qc := Lib.hid (qc.out.below hb)
  replace hB := Lib.hid (hBp.out.trans (hb.mono hBp.out.size))
  clear hb hBp
  obtain ⟨a1, a2, a3, a4, a5, a6⟩ := qa.out.facts
  have a7 := qa.out.lt
  obtain ⟨b1, b2, b3, b4, b5, b6⟩ := qb.out.facts
  have b7 := qb.out.lt
  obtain ⟨c1, c2, c3, c4, c5, c6⟩ := qc.out.facts
  have c7 := qc.out.lt
  go_wp2
  go_ret
  exact ⟨rfl, hB.out⟩

set_option maxRecDepth 100000 in
set_option maxHeartbeats 4000000 in
theorem rorder_bad2 (g1 g2 g3 : Bool) (n1 d1 n2 d2 n3 d3 : ByteArray) (sn1 : n1.size ≤ 140737488355328) (sd1 : d1.size ≤ 140737488355328) (sn2 : n2.size ≤ 140737488355328) (sd2 : d2.size ≤ 140737488355328) (w : World) (hE : REnv w) (hs : shortB 40 [(n1, d1), (n2, d2), (n3, d3)] = true) (v1 : validB g1 n1 d1 = true) (v2 : validB g2 n2 d2 = false) :
    Calls Tryz.prog 6 #[.agg #[.bool g1, .string n1, .string d1], .agg #[.bool g2, .string n2, .string d2], .agg #[.bool g3, .string n3, .string d3]] w fun e w' => e = .returned (.bool true) ∧ Below w.heap.size w w' := by
  replace hE := Lib.hid hE
  replace hs := Lib.hid hs
  replace v1 := Lib.hid v1
  replace v2 := Lib.hid v2
  go_enter Tryz.func6, Tryz.ntmps6
  go_wp2_with fail
  refine (rhead_any _ (hE.out.below (triW_below w g1 g2 g3 n1 d1 n2 d2 n3 d3))).mono ?_
  rintro e w0 ⟨rfl, hb⟩
  obtain ⟨qa, qb, qc⟩ := triW_boxes w g1 g2 g3 n1 d1 n2 d2 n3 d3
  replace qa := Lib.hid (qa.below hb)
  replace qb := Lib.hid (qb.below hb)
  replace qc := Lib.hid (qc.below hb)
  have hB := Lib.hid ((triW_below w g1 g2 g3 n1 d1 n2 d2 n3 d3).trans (hb.mono (triW_below w g1 g2 g3 n1 d1 n2 d2 n3 d3).size))
  clear hb
  obtain ⟨a1, a2, a3, a4, a5, a6⟩ := qa.out.facts
  have a7 := qa.out.lt
  obtain ⟨b1, b2, b3, b4, b5, b6⟩ := qb.out.facts
  have b7 := qb.out.lt
  obtain ⟨c1, c2, c3, c4, c5, c6⟩ := qc.out.facts
  have c7 := qc.out.lt
  go_wp2_with fail
  refine (short_any 40 [(n1, d1), (n2, d2), (n3, d3)] w0.heap.size 3 _ (by simp) (raws3 w0 g1 g2 g3 n1 d1 n2 d2 n3 d3)).mono ?_
  rintro e w1 ⟨rfl, rfl⟩
  rw [hs.out]
  obtain ⟨w1, hw1⟩ : ∃ W, W = w0.alloc (.cells #[.bool g1, .string n1, .string d1, .bool g2, .string n2, .string d2, .bool g3, .string n3, .string d3] 23) := ⟨_, rfl⟩
  rw [← hw1]
  clear a1 a2 a3 a4 a5 a6 a7 b1 b2 b3 b4 b5 b6 b7 c1 c2 c3 c4 c5 c6 c7
  replace qa : Hid (B3 w1 w.heap.size g1 n1 d1) := by rw [hw1]; exact qa.out.alloc _
  replace qb : Hid (B3 w1 (w.heap.size + 1) g2 n2 d2) := by rw [hw1]; exact qb.out.alloc _
  replace qc : Hid (B3 w1 (w.heap.size + 1 + 1) g3 n3 d3) := by rw [hw1]; exact qc.out.alloc _
  replace hB : Hid (Below w.heap.size w w1) := by rw [hw1]; exact hB.out.alloc hB.out.size _
  clear hw1
  obtain ⟨a1, a2, a3, a4, a5, a6⟩ := qa.out.facts
  have a7 := qa.out.lt
  obtain ⟨b1, b2, b3, b4, b5, b6⟩ := qb.out.facts
  have b7 := qb.out.lt
  obtain ⟨c1, c2, c3, c4, c5, c6⟩ := qc.out.facts
  have c7 := qc.out.lt
  go_wp2_with fail
  have hBp := hB
  refine (Valid_any g1 n1 d1 _ (hE.out.below hBp.out).1 (by omega) (by omega)).mono ?_
  rintro e w2 ⟨rfl, hb⟩
  rw [v1.out]
  clear a1 a2 a3 a4 a5 a6 a7 b1 b2 b3 b4 b5 b6 b7 c1 c2 c3 c4 c5 c6 c7
  replace qa := Lib.hid (qa.out.below hb)
  replace qb := Lib.hid (qb.out.below hb)
  replace qc := Lib.hid (qc.out.below hb)
  replace hB := Lib.hid (hBp.out.trans (hb.mono hBp.out.size))
  clear hb hBp
  obtain ⟨a1, a2, a3, a4, a5, a6⟩ := qa.out.facts
  have a7 := qa.out.lt
  obtain ⟨b1, b2, b3, b4, b5, b6⟩ := qb.out.facts
  have b7 := qb.out.lt
  obtain ⟨c1, c2, c3, c4, c5, c6⟩ := qc.out.facts
  have c7 := qc.out.lt
  go_wp2_with fail
  have hBp := hB
  refine (Valid_any g2 n2 d2 _ (hE.out.below hBp.out).1 (by omega) (by omega)).mono ?_
  rintro e w3 ⟨rfl, hb⟩
  rw [v2.out]
  clear a1 a2 a3 a4 a5 a6 a7 b1 b2 b3 b4 b5 b6 b7 c1 c2 c3 c4 c5 c6 c7
  replace qa := Lib.hid (qa.out.below hb)
  replace qb := Lib.hid (qb.out.below hb)
  replace qc := Lib.hid (qc.out.below hb)
  replace hB := Lib.hid (hBp.out.trans (hb.mono hBp.out.size))
  clear hb hBp
  obtain ⟨a1, a2, a3, a4, a5, a6⟩ := qa.out.facts
  have a7 := qa.out.lt
  obtain ⟨b1, b2, b3, b4, b5, b6⟩ := qb.out.facts
  have b7 := qb.out.lt
  obtain ⟨c1, c2, c3, c4, c5, c6⟩ := qc.out.facts
  have c7 := qc.out.lt
  go_wp2
  go_ret
  exact ⟨rfl, hB.out⟩

set_option maxRecDepth 100000 in
set_option maxHeartbeats 4000000 in
theorem rorder_bad3 (g1 g2 g3 : Bool) (n1 d1 n2 d2 n3 d3 : ByteArray) (sn1 : n1.size ≤ 140737488355328) (sd1 : d1.size ≤ 140737488355328) (sn2 : n2.size ≤ 140737488355328) (sd2 : d2.size ≤ 140737488355328) (sn3 : n3.size ≤ 140737488355328) (sd3 : d3.size ≤ 140737488355328) (w : World) (hE : REnv w) (hs : shortB 40 [(n1, d1), (n2, d2), (n3, d3)] = true) (v1 : validB g1 n1 d1 = true) (v2 : validB g2 n2 d2 = true) (v3 : validB g3 n3 d3 = false) :
    Calls Tryz.prog 6 #[.agg #[.bool g1, .string n1, .string d1], .agg #[.bool g2, .string n2, .string d2], .agg #[.bool g3, .string n3, .string d3]] w fun e w' => e = .returned (.bool true) ∧ Below w.heap.size w w' := by
  replace hE := Lib.hid hE
  replace hs := Lib.hid hs
  replace v1 := Lib.hid v1
  replace v2 := Lib.hid v2
  replace v3 := Lib.hid v3
  go_enter Tryz.func6, Tryz.ntmps6
  go_wp2_with fail
  refine (rhead_any _ (hE.out.below (triW_below w g1 g2 g3 n1 d1 n2 d2 n3 d3))).mono ?_
  rintro e w0 ⟨rfl, hb⟩
  obtain ⟨qa, qb, qc⟩ := triW_boxes w g1 g2 g3 n1 d1 n2 d2 n3 d3
  replace qa := Lib.hid (qa.below hb)
  replace qb := Lib.hid (qb.below hb)
  replace qc := Lib.hid (qc.below hb)
  have hB := Lib.hid ((triW_below w g1 g2 g3 n1 d1 n2 d2 n3 d3).trans (hb.mono (triW_below w g1 g2 g3 n1 d1 n2 d2 n3 d3).size))
  clear hb
  obtain ⟨a1, a2, a3, a4, a5, a6⟩ := qa.out.facts
  have a7 := qa.out.lt
  obtain ⟨b1, b2, b3, b4, b5, b6⟩ := qb.out.facts
  have b7 := qb.out.lt
  obtain ⟨c1, c2, c3, c4, c5, c6⟩ := qc.out.facts
  have c7 := qc.out.lt
  go_wp2_with fail
  refine (short_any 40 [(n1, d1), (n2, d2), (n3, d3)] w0.heap.size 3 _ (by simp) (raws3 w0 g1 g2 g3 n1 d1 n2 d2 n3 d3)).mono ?_
  rintro e w1 ⟨rfl, rfl⟩
  rw [hs.out]
  obtain ⟨w1, hw1⟩ : ∃ W, W = w0.alloc (.cells #[.bool g1, .string n1, .string d1, .bool g2, .string n2, .string d2, .bool g3, .string n3, .string d3] 23) := ⟨_, rfl⟩
  rw [← hw1]
  clear a1 a2 a3 a4 a5 a6 a7 b1 b2 b3 b4 b5 b6 b7 c1 c2 c3 c4 c5 c6 c7
  replace qa : Hid (B3 w1 w.heap.size g1 n1 d1) := by rw [hw1]; exact qa.out.alloc _
  replace qb : Hid (B3 w1 (w.heap.size + 1) g2 n2 d2) := by rw [hw1]; exact qb.out.alloc _
  replace qc : Hid (B3 w1 (w.heap.size + 1 + 1) g3 n3 d3) := by rw [hw1]; exact qc.out.alloc _
  replace hB : Hid (Below w.heap.size w w1) := by rw [hw1]; exact hB.out.alloc hB.out.size _
  clear hw1
  obtain ⟨a1, a2, a3, a4, a5, a6⟩ := qa.out.facts
  have a7 := qa.out.lt
  obtain ⟨b1, b2, b3, b4, b5, b6⟩ := qb.out.facts
  have b7 := qb.out.lt
  obtain ⟨c1, c2, c3, c4, c5, c6⟩ := qc.out.facts
  have c7 := qc.out.lt
  go_wp2_with fail
  have hBp := hB
  refine (Valid_any g1 n1 d1 _ (hE.out.below hBp.out).1 (by omega) (by omega)).mono ?_
  rintro e w2 ⟨rfl, hb⟩
  rw [v1.out]
  clear a1 a2 a3 a4 a5 a6 a7 b1 b2 b3 b4 b5 b6 b7 c1 c2 c3 c4 c5 c6 c7
  replace qa := Lib.hid (qa.out.below hb)
  replace qb := Lib.hid (qb.out.below hb)
  replace qc := Lib.hid (qc.out.below hb)
  replace hB := Lib.hid (hBp.out.trans (hb.mono hBp.out.size))
  clear hb hBp
  obtain ⟨a1, a2, a3, a4, a5, a6⟩ := qa.out.facts
  have a7 := qa.out.lt
  obtain ⟨b1, b2, b3, b4, b5, b6⟩ := qb.out.facts
  have b7 := qb.out.lt
  obtain ⟨c1, c2, c3, c4, c5, c6⟩ := qc.out.facts
  have c7 := qc.out.lt
  go_wp2_with fail
  have hBp := hB
  refine (Valid_any g2 n2 d2 _ (hE.out.below hBp.out).1 (by omega) (by omega)).mono ?_
  rintro e w3 ⟨rfl, hb⟩
  rw [v2.out]
  clear a1 a2 a3 a4 a5 a6 a7 b1 b2 b3 b4 b5 b6 b7 c1 c2 c3 c4 c5 c6 c7
  replace qa := Lib.hid (qa.out.below hb)
  replace qb := Lib.hid (qb.out.below hb)
  replace qc := Lib.hid (qc.out.below hb)
  replace hB := Lib.hid (hBp.out.trans (hb.mono hBp.out.size))
  clear hb hBp
  obtain ⟨a1, a2, a3, a4, a5, a6⟩ := qa.out.facts
  have a7 := qa.out.lt
  obtain ⟨b1, b2, b3, b4, b5, b6⟩ := qb.out.facts
  have b7 := qb.out.lt
  obtain ⟨c1, c2, c3, c4, c5, c6⟩ := qc.out.facts
  have c7 := qc.out.lt
  go_wp2_with fail
  have hBp := hB
  refine (Valid_any g3 n3 d3 _ (hE.out.below hBp.out).1 (by omega) (by omega)).mono ?_
  rintro e w4 ⟨rfl, hb⟩
  rw [v3.out]
  clear a1 a2 a3 a4 a5 a6 a7 b1 b2 b3 b4 b5 b6 b7 c1 c2 c3 c4 c5 c6 c7
  replace qa := Lib.hid (qa.out.below hb)
  replace qb := Lib.hid (qb.out.below hb)
  replace qc := Lib.hid (qc.out.below hb)
  replace hB := Lib.hid (hBp.out.trans (hb.mono hBp.out.size))
  clear hb hBp
  obtain ⟨a1, a2, a3, a4, a5, a6⟩ := qa.out.facts
  have a7 := qa.out.lt
  obtain ⟨b1, b2, b3, b4, b5, b6⟩ := qb.out.facts
  have b7 := qb.out.lt
  obtain ⟨c1, c2, c3, c4, c5, c6⟩ := qc.out.facts
  have c7 := qc.out.lt
  go_wp2
  go_ret
  exact ⟨rfl, hB.out⟩

theorem rorder_n (a b c : Rat) (Oa : OkQ a) (Ob : OkQ b) (Oc : OkQ c) (Da : Dg 40 a) (Db : Dg 40 b) (Dc : Dg 40 c) (neg : decide (c.num < 0) = true) (w : World) (hE : REnv w) (hs : shortB 40 [((T (some a.num.natAbs)), (T (some a.den))), ((T (some b.num.natAbs)), (T (some b.den))), ((T (some c.num.natAbs)), (T (some c.den)))] = true) :
    Calls Tryz.prog 6 #[qv a, qv b, qv c] w fun e w' => e = .returned (.bool true) ∧ Below w.heap.size w w' := by
  rcases rat_tri a b with h | h | h
  · have e1 := cmpQ_lt h
    cases hz : decide (cmpQ b c ≤ 0) with
    | false => exact rorder_lt_f_n_good a b c Oa Ob Oc Da Db Dc _ _ e1 (cmpQ_gt h) rfl rfl ((cmpQ_add a b c).trans e1) (fun e => Rat.lt_irrefl (e ▸ h)) hz neg w hE hs
    | true => exact rorder_lt_t_n_good a b c Oa Ob Oc Da Db Dc _ _ e1 (cmpQ_gt h) rfl rfl ((cmpQ_add a b c).trans e1) (fun e => Rat.lt_irrefl (e ▸ h)) hz (cmpQ_of_le (Rat.le_trans (Rat.le_of_lt h) (cmpQ_le (of_decide_eq_true hz)))) neg w hE hs
  · have e1 : cmpQ a b = 0 := by rw [h, cmpQ_eq]
    have e2 : cmpQ b a = 0 := by rw [h, cmpQ_eq]
    cases hz : decide (cmpQ b c ≤ 0) with
    | false => exact rorder_eq_f_n_good a b c Oa Ob Oc Da Db Dc _ _ e1 e2 rfl rfl ((cmpQ_add a b c).trans e1) h hz neg w hE hs
    | true => exact rorder_eq_t_n_good a b c Oa Ob Oc Da Db Dc _ _ e1 e2 rfl rfl ((cmpQ_add a b c).trans e1) h hz (cmpQ_of_le (h ▸ cmpQ_le (of_decide_eq_true hz))) neg w hE hs
  · have e1 := cmpQ_gt h
    exact rorder_gt_x_n_good a b c Oa Ob Oc Da Db Dc _ _ e1 (cmpQ_lt h) rfl rfl ((cmpQ_add a b c).trans e1) (fun e => Rat.lt_irrefl (e ▸ h)) neg w hE hs

theorem rorder_z (a b c : Rat) (Oa : OkQ a) (Ob : OkQ b) (Oc : OkQ c) (Da : Dg 40 a) (Db : Dg 40 b) (Dc : Dg 40 c) (neg : decide (c.num < 0) = false) (zer : ((T (some c.num.natAbs)).toList == [48]) = true) (w : World) (hE : REnv w) (hs : shortB 40 [((T (some a.num.natAbs)), (T (some a.den))), ((T (some b.num.natAbs)), (T (some b.den))), ((T (some c.num.natAbs)), (T (some c.den)))] = true) :
    Calls Tryz.prog 6 #[qv a, qv b, qv c] w fun e w' => e = .returned (.bool true) ∧ Below w.heap.size w w' := by
  rcases rat_tri a b with h | h | h
  · have e1 := cmpQ_lt h
    cases hz : decide (cmpQ b c ≤ 0) with
    | false => exact rorder_lt_f_z_good a b c Oa Ob Oc Da Db Dc _ _ e1 (cmpQ_gt h) rfl rfl ((cmpQ_add a b c).trans e1) (fun e => Rat.lt_irrefl (e ▸ h)) hz neg zer w hE hs
    | true => exact rorder_lt_t_z_good a b c Oa Ob Oc Da Db Dc _ _ e1 (cmpQ_gt h) rfl rfl ((cmpQ_add a b c).trans e1) (fun e => Rat.lt_irrefl (e ▸ h)) hz (cmpQ_of_le (Rat.le_trans (Rat.le_of_lt h) (cmpQ_le (of_decide_eq_true hz)))) neg zer w hE hs
  · have e1 : cmpQ a b = 0 := by rw [h, cmpQ_eq]
    have e2 : cmpQ b a = 0 := by rw [h, cmpQ_eq]
    cases hz : decide (cmpQ b c ≤ 0) with
    | false => exact rorder_eq_f_z_good a b c Oa Ob Oc Da Db Dc _ _ e1 e2 rfl rfl ((cmpQ_add a b c).trans e1) h hz neg zer w hE hs
    | true => exact rorder_eq_t_z_good a b c Oa Ob Oc Da Db Dc _ _ e1 e2 rfl rfl ((cmpQ_add a b c).trans e1) h hz (cmpQ_of_le (h ▸ cmpQ_le (of_decide_eq_true hz))) neg zer w hE hs
  · have e1 := cmpQ_gt h
    exact rorder_gt_x_z_good a b c Oa Ob Oc Da Db Dc _ _ e1 (cmpQ_lt h) rfl rfl ((cmpQ_add a b c).trans e1) (fun e => Rat.lt_irrefl (e ▸ h)) neg zer w hE hs

theorem rorder_p (a b c : Rat) (Oa : OkQ a) (Ob : OkQ b) (Oc : OkQ c) (Da : Dg 40 a) (Db : Dg 40 b) (Dc : Dg 40 c) (neg : decide (c.num < 0) = false) (zer : ((T (some c.num.natAbs)).toList == [48]) = false) (hc : 0 < c) (w : World) (hE : REnv w) (hs : shortB 40 [((T (some a.num.natAbs)), (T (some a.den))), ((T (some b.num.natAbs)), (T (some b.den))), ((T (some c.num.natAbs)), (T (some c.den)))] = true) :
    Calls Tryz.prog 6 #[qv a, qv b, qv c] w fun e w' => e = .returned (.bool true) ∧ Below w.heap.size w w' := by
  rcases rat_tri a b with h | h | h
  · have e1 := cmpQ_lt h
    cases hz : decide (cmpQ b c ≤ 0) with
    | false => exact rorder_lt_f_p_good a b c Oa Ob Oc Da Db Dc _ _ e1 (cmpQ_gt h) rfl rfl ((cmpQ_add a b c).trans e1) ((cmpQ_mul a b c hc).trans e1) (fun e => Rat.lt_irrefl (e ▸ h)) hz neg zer w hE hs
    | true => exact rorder_lt_t_p_good a b c Oa Ob Oc Da Db Dc _ _ e1 (cmpQ_gt h) rfl rfl ((cmpQ_add a b c).trans e1) ((cmpQ_mul a b c hc).trans e1) (fun e => Rat.lt_irrefl (e ▸ h)) hz (cmpQ_of_le (Rat.le_trans (Rat.le_of_lt h) (cmpQ_le (of_decide_eq_true hz)))) neg zer w hE hs
  · have e1 : cmpQ a b = 0 := by rw [h, cmpQ_eq]
    have e2 : cmpQ b a = 0 := by rw [h, cmpQ_eq]
    cases hz : decide (cmpQ b c ≤ 0) with
    | false => exact rorder_eq_f_p_good a b c Oa Ob Oc Da Db Dc _ _ e1 e2 rfl rfl ((cmpQ_add a b c).trans e1) ((cmpQ_mul a b c hc).trans e1) h hz neg zer w hE hs
    | true => exact rorder_eq_t_p_good a b c Oa Ob Oc Da Db Dc _ _ e1 e2 rfl rfl ((cmpQ_add a b c).trans e1) ((cmpQ_mul a b c hc).trans e1) h hz (cmpQ_of_le (h ▸ cmpQ_le (of_decide_eq_true hz))) neg zer w hE hs
  · have e1 := cmpQ_gt h
    exact rorder_gt_x_p_good a b c Oa Ob Oc Da Db Dc _ _ e1 (cmpQ_lt h) rfl rfl ((cmpQ_add a b c).trans e1) ((cmpQ_mul a b c hc).trans e1) (fun e => Rat.lt_irrefl (e ▸ h)) neg zer w hE hs

theorem rorder_all (a b c : Rat) (Oa : OkQ a) (Ob : OkQ b) (Oc : OkQ c) (Da : Dg 40 a) (Db : Dg 40 b) (Dc : Dg 40 c) (w : World) (hE : REnv w) (hs : shortB 40 [((T (some a.num.natAbs)), (T (some a.den))), ((T (some b.num.natAbs)), (T (some b.den))), ((T (some c.num.natAbs)), (T (some c.den)))] = true) :
    Calls Tryz.prog 6 #[qv a, qv b, qv c] w fun e w' => e = .returned (.bool true) ∧ Below w.heap.size w w' := by
  cases neg : decide (c.num < 0) with
  | true => exact rorder_n a b c Oa Ob Oc Da Db Dc neg w hE hs
  | false =>
    cases zer : ((T (some c.num.natAbs)).toList == [48]) with
    | true => exact rorder_z a b c Oa Ob Oc Da Db Dc neg zer w hE hs
    | false =>
      refine rorder_p a b c Oa Ob Oc Da Db Dc neg zer ?_ w hE hs
      have h1 := of_decide_eq_false neg
      rw [T_is_zero] at zer
      have h2 := of_decide_eq_false zer
      rw [neg_iff] at h1
      refine Rat.lt_of_le_of_ne (Rat.not_lt.1 h1) fun e => h2 ?_
      rw [← e]
      rfl

theorem rorder_any (g1 g2 g3 : Bool) (n1 d1 n2 d2 n3 d3 : ByteArray) (sn1 : n1.size ≤ 140737488355328) (sd1 : d1.size ≤ 140737488355328) (sn2 : n2.size ≤ 140737488355328) (sd2 : d2.size ≤ 140737488355328) (sn3 : n3.size ≤ 140737488355328) (sd3 : d3.size ≤ 140737488355328) (w : World) (hE : REnv w) :
    Calls Tryz.prog 6 #[.agg #[.bool g1, .string n1, .string d1], .agg #[.bool g2, .string n2, .string d2], .agg #[.bool g3, .string n3, .string d3]] w fun e w' => e = .returned (.bool true) ∧ Below w.heap.size w w' := by
  cases hs : shortB 40 [(n1, d1), (n2, d2), (n3, d3)] with
  | false => exact rorder_bad0 g1 g2 g3 n1 d1 n2 d2 n3 d3 w hE hs
  | true =>
    cases v1 : validB g1 n1 d1 with
    | false => exact rorder_bad1 g1 g2 g3 n1 d1 n2 d2 n3 d3 sn1 sd1 w hE hs v1
    | true =>
      cases v2 : validB g2 n2 d2 with
      | false => exact rorder_bad2 g1 g2 g3 n1 d1 n2 d2 n3 d3 sn1 sd1 sn2 sd2 w hE hs v1 v2
      | true =>
        cases v3 : validB g3 n3 d3 with
        | false => exact rorder_bad3 g1 g2 g3 n1 d1 n2 d2 n3 d3 sn1 sd1 sn2 sd2 sn3 sd3 w hE hs v1 v2 v3
        | true =>
          obtain ⟨a, Oa, rfl, rfl, rfl⟩ := of_valid v1
          obtain ⟨b, Ob, rfl, rfl, rfl⟩ := of_valid v2
          obtain ⟨c, Oc, rfl, rfl, rfl⟩ := of_valid v3
          have h := hs
          simp only [shortB, List.all_cons, List.all_nil, Bool.and_true, Bool.and_eq_true, decide_eq_true_eq] at h
          exact rorder_all a b c Oa Ob Oc (dg_of_size (by omega) h.1.1 h.1.2) (dg_of_size (by omega) h.2.1.1 h.2.1.2) (dg_of_size (by omega) h.2.2.1 h.2.2.2) w hE hs

end Nt
end Go.Proofs.YtjahnkeafaebdaaGreatDoor
