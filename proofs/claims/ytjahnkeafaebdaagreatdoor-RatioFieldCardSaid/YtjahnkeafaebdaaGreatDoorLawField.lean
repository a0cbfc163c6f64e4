/- RatioField: the walk. -/
import Derived.Test.YtjahnkeafaebdaaGreatDoorRatTri
namespace Go.Proofs.YtjahnkeafaebdaaGreatDoor
open Go.RowKit Go.Shelf
namespace Nt

set_option maxRecDepth 100000 in
set_option maxHeartbeats 4000000 in
theorem field_bad0 (g1 g2 g3 : Bool) (n1 d1 n2 d2 n3 d3 : ByteArray)  (w : World) (hE : REnv w) (hs : shortB 40 [(n1, d1), (n2, d2), (n3, d3)] = false) :
    Calls Tryz.prog 5 #[.agg #[.bool g1, .string n1, .string d1], .agg #[.bool g2, .string n2, .string d2], .agg #[.bool g3, .string n3, .string d3]] w fun e w' => e = .returned (.bool true) ∧ Below w.heap.size w w' := by
  replace hE := Lib.hid hE
  replace hs := Lib.hid hs
  go_enter Tryz.func5, Tryz.ntmps5
  go_wp2_with fail
  refine (rhead_any _ (hE.out.below (triW_below w g1 g2 g3 n1 d1 n2 d2 n3 d3))).mono ?_
  rintro e w0 ⟨rfl, hb⟩
  obtain ⟨qa, qb, qc⟩ := triW_boxes w g1 g2 g3 n1 d1 n2 d2 n3 d3
  replace qa := Lib.hid (qa.below hb)
  replace qb := Lib.hid (qb.below hb)
  replace qc := Lib.hid (qc.below hb)
  have hB := Lib.hid ((triW_below w g1 g2 g3 n1 d1 n2 d2 n3 d3).trans (hb.mono (triW_below w g1 g2 g3 n1 d1 n2 d2 n3 d3).size))
  clear hb
  obtain ⟨a1, a2, a3, a4, a5, a6⟩ := qa.out.facts
  have a7 := qa.out.lt
  obtain ⟨b1, b2, b3, b4, b5, b6⟩ := qb.out.facts
  have b7 := qb.out.lt
  obtain ⟨c1, c2, c3, c4, c5, c6⟩ := qc.out.facts
  have c7 := qc.out.lt
  go_wp2_with fail
  refine (short_any 40 [(n1, d1), (n2, d2), (n3, d3)] w0.heap.size 3 _ (by simp) (raws3 w0 g1 g2 g3 n1 d1 n2 d2 n3 d3)).mono ?_
  rintro e w1 ⟨rfl, rfl⟩
  rw [hs.out]
  obtain ⟨w1, hw1⟩ : ∃ W, W = w0.alloc (.cells #[.bool g1, .string n1, .string d1, .bool g2, .string n2, .string d2, .bool g3, .string n3, .string d3] 23) := ⟨_, rfl⟩
  rw [← hw1]
  clear a1 a2 a3 a4 a5 a6 a7 b1 b2 b3 b4 b5 b6 b7 c1 c2 c3 c4 c5 c6 c7
  replace qa : Hid (B3 w1 w.heap.size g1 n1 d1) := by rw [hw1]; exact qa.out.alloc _
  replace qb : Hid (B3 w1 (w.heap.size + 1) g2 n2 d2) := by rw [hw1]; exact qb.out.alloc _
  replace qc : Hid (B3 w1 (w.heap.size + 1 + 1) g3 n3 d3) := by rw [hw1]; exact qc.out.alloc _
  replace hB : Hid (Below w.heap.size w w1) := by rw [hw1]; exact hB.out.alloc hB.out.size _
  clear hw1
  obtain ⟨a1, a2, a3, a4, a5, a6⟩ := qa.out.facts
  have a7 := qa.out.lt
  obtain ⟨b1, b2, b3, b4, b5, b6⟩ := qb.out.facts
  have b7 := qb.out.lt
  obtain ⟨c1, c2, c3, c4, c5, c6⟩ := qc.out.facts
  have c7 := qc.out.lt
  go_wp2
  go_ret
  exact ⟨rfl, hB.out⟩

set_option maxRecDepth 100000 in
set_option maxHeartbeats 4000000 in
theorem field_bad1 (g1 g2 g3 : Bool) (n1 d1 n2 d2 n3 d3 : ByteArray) (sn1 : n1.size ≤ 140737488355328) (sd1 : d1.size ≤ 140737488355328) (w : World) (hE : REnv w) (hs : shortB 40 [(n1, d1), (n2, d2), (n3, d3)] = true) (v1 : validB g1 n1 d1 = false) :
    Calls Tryz.prog 5 #[.agg #[.bool g1, .string n1, .string d1], .agg #[.bool g2, .string n2, .string d2], .agg #[.bool g3, .string n3, .string d3]] w fun e w' => e = .returned (.bool true) ∧ Below w.heap.size w w' := by
  replace hE := Lib.hid hE
  replace hs := Lib.hid hs
  replace v1 := Lib.hid v1
  go_enter Tryz.func5, Tryz.ntmps5
  go_wp2_with fail
  refine (rhead_any _ (hE.out.below (triW_below w g1 g2 g3 n1 d1 n2 d2 n3 d3))).mono ?_
  rintro e w0 ⟨rfl, hb⟩
  obtain ⟨qa, qb, qc⟩ := triW_boxes w g1 g2 g3 n1 d1 n2 d2 n3 d3
  replace qa := Lib.hid (qa.below hb)
  replace qb := Lib.hid (qb.below hb)
  replace qc := Lib.hid (qc.below hb)
  have hB := Lib.hid ((triW_below w g1 g2 g3 n1 d1 n2 d2 n3 d3).trans (hb.mono (triW_below w g1 g2 g3 n1 d1 n2 d2 n3 d3).size))
  clear hb
  obtain ⟨a1, a2, a3, a4, a5, a6⟩ := qa.out.facts
  have a7 := qa.out.lt
  obtain ⟨b1, b2, b3, b4, b5, b6⟩ := qb.out.facts
  have b7 := qb.out.lt
  obtain ⟨c1, c2, c3, c4, c5, c6⟩ := qc.out.facts
  have c7 := qc.out.lt
  go_wp2_with fail
  refine (short_any 40 [(n1, d1), (n2, d2), (n3, d3)] w0.heap.size 3 _ (by simp) (raws3 w0 g1 g2 g3 n1 d1 n2 d2 n3 d3)).mono ?_
  rintro e w1 ⟨rfl, rfl⟩
  rw [hs.out]
  obtain ⟨w1, hw1⟩ : ∃ W, W = w0.alloc (.cells #[.bool g1, .string n1, .string d1, .bool g2, .string n2, .string d2, .bool g3, .string n3, .string d3] 23) := ⟨_, rfl⟩
  rw [← hw1]
  clear a1 a2 a3 a4 a5 a6 a7 b1 b2 b3 b4 b5 b6 b7 c1 c2 c3 c4 c5 c6 c7
  replace qa : Hid (B3 w1 w.heap.size g1 n1 d1) := by rw [hw1]; exact qa.out.alloc _
  replace qb : Hid (B3 w1 (w.heap.size + 1) g2 n2 d2) := by rw [hw1]; exact qb.out.alloc _
  replace qc : Hid (B3 w1 (w.heap.size + 1 + 1) g3 n3 d3) := by rw [hw1]; exact qc.out.alloc _
  replace hB : Hid (Below w.heap.size w w1) := by rw [hw1]; exact hB.out.alloc hB.out.size _
  clear hw1
  obtain ⟨a1, a2, a3, a4, a5, a6⟩ := qa.out.facts
  have a7 := qa.out.lt
  obtain ⟨b1, b2, b3, b4, b5, b6⟩ := qb.out.facts
  have b7 := qb.out.lt
  obtain ⟨c1, c2, c3, c4, c5, c6⟩ := qc.out.facts
  have c7 := qc.out.lt
  go_wp2_with fail
  have hBp := hB
  refine (Valid_any g1 n1 d1 _ (hE.out.below hBp.out).1 (by omega) (by omega)).mono ?_
  rintro e w2 ⟨rfl, hb⟩
  rw [v1.out]
  clear a1 a2 a3 a4 a5 a6 a7 b1 b2 b3 b4 b5 b6 b7 c1 c2 c3 c4 c5 c6 c7
  replace qa := Lib.hid (qa.out.below hb)
  replace qb := Lib.hid (qb.out.below hb)
  replace qc := Lib.hid (qc.out.below hb)
  replace hB := Lib.hid (hBp.out.trans (hb.mono hBp.out.size))
  clear hb hBp
  obtain ⟨a1, a2, a3, a4, a5, a6⟩ := qa.out.facts
  have a7 := qa.out.lt
  obtain ⟨b1, b2, b3, b4, b5, b6⟩ := qb.out.facts
  have b7 := qb.out.lt
  obtain ⟨c1, c2, c3, c4, c5, c6⟩ := qc.out.facts
  have c7 := qc.out.lt
  go_wp2
  go_ret
  exact ⟨rfl, hB.out⟩

set_option maxRecDepth 100000 in
set_option maxHeartbeats 4000000 in
theorem field_bad2 (g1 g2 g3 : Bool) (n1 d1 n2 d2 n3 d3 : ByteArray) (sn1 : n1.size ≤ 140737488355328) (sd1 : d1.size ≤ 140737488355328) (sn2 : n2.size ≤ 140737488355328) (sd2 : d2.size ≤ 140737488355328) (w : World) (hE : REnv w) (hs : shortB 40 [(n1, d1), (n2, d2), (n3, d3)] = true) (v1 : validB g1 n1 d1 = true) (v2 : validB g2 n2 d2 = false) :
    Calls Tryz.prog 5 #[.agg #[.bool g1, .string n1, .string d1], .agg #[.bool g2, .string n2, .string d2], .agg #[.bool g3, .string n3, .string d3]] w fun e w' => e = .returned (.bool true) ∧ Below w.heap.size w w' := by
  replace hE := Lib.hid hE
  replace hs := Lib.hid hs
  replace v1 := Lib.hid v1
  replace v2 := Lib.hid v2
  go_enter Tryz.func5, Tryz.ntmps5
  go_wp2_with fail
  refine (rhead_any _ (hE.out.below (triW_below w g1 g2 g3 n1 d1 n2 d2 n3 d3))).mono ?_
  rintro e w0 ⟨rfl, hb⟩
  obtain ⟨qa, qb, qc⟩ := triW_boxes w g1 g2 g3 n1 d1 n2 d2 n3 d3
  replace qa := Lib.hid (qa.below hb)
  replace qb := Lib.hid (qb.below hb)
  replace qc := Lib.hid (qc.below hb)
  have hB := Lib.hid ((triW_below w g1 g2 g3 n1 d1 n2 d2 n3 d3).trans (hb.mono (triW_below w g1 g2 g3 n1 d1 n2 d2 n3 d3).size))
  clear hb
  obtain ⟨a1, a2, a3, a4, a5, a6⟩ := qa.out.facts
  have a7 := qa.out.lt
  obtain ⟨b1, b2, b3, b4, b5, b6⟩ := qb.out.facts
  have b7 := qb.out.lt
  obtain ⟨c1, c2, c3, c4, c5, c6⟩ := qc.out.facts
  have c7 := qc.out.lt
  go_wp2_with fail
  refine (short_any 40 [(n1, d1), (n2, d2), (n3, d3)] w0.heap.size 3 _ (by simp) (raws3 w0 g1 g2 g3 n1 d1 n2 d2 n3 d3)).mono ?_
  rintro e w1 ⟨rfl, rfl⟩
  rw [hs.out]
  obtain ⟨w1, hw1⟩ : ∃ W, W = w0.alloc (.cells #[.bool g1, .string n1, .string d1, .bool g2, .string n2, .string d2, .bool g3, .string n3, .string d3] 23) := ⟨_, rfl⟩
  rw [← hw1]
  clear a1 a2 a3 a4 a5 a6 a7 b1 b2 b3 b4 b5 b6 b7 c1 c2 c3 c4 c5 c6 c7
  replace qa : Hid (B3 w1 w.heap.size g1 n1 d1) := by rw [hw1]; exact qa.out.alloc _
  replace qb : Hid (B3 w1 (w.heap.size + 1) g2 n2 d2) := by rw [hw1]; exact qb.out.alloc _
  replace qc : Hid (B3 w1 (w.heap.size + 1 + 1) g3 n3 d3) := by rw [hw1]; exact qc.out.alloc _
  replace hB : Hid (Below w.heap.size w w1) := by rw [hw1]; exact hB.out.alloc hB.out.size _
  clear hw1
  obtain ⟨a1, a2, a3, a4, a5, a6⟩ := qa.out.facts
  have a7 := qa.out.lt
  obtain ⟨b1, b2, b3, b4, b5, b6⟩ := qb.out.facts
  have b7 := qb.out.lt
  obtain ⟨c1, c2, c3, c4, c5, c6⟩ := qc.out.facts
  have c7 := qc.out.lt
  go_wp2_with fail
  have hBp := hB
  refine (Valid_any g1 n1 d1 _ (hE.out.below hBp.out).1 (by omega) (by omega)).mono ?_
  rintro e w2 ⟨rfl, hb⟩
  rw [v1.out]
  clear a1 a2 a3 a4 a5 a6 a7 b1 b2 b3 b4 b5 b6 b7 c1 c2 c3 c4 c5 c6 c7
  replace qa := Lib.hid (qa.out.below hb)
  replace qb := Lib.hid (qb.out.below hb)
  replace qc := Lib.hid (qc.out.below hb)
  replace hB := Lib.hid (hBp.out.trans (hb.mono hBp.out.size))
  clear hb hBp
  obtain ⟨a1, a2, a3, a4, a5, a6⟩ := qa.out.facts
  have a7 := qa.out.lt
  obtain ⟨b1, b2, b3, b4, b5, b6⟩ := qb.out.facts
  have b7 := qb.out.lt
  obtain ⟨c1, c2, c3, c4, c5, c6⟩ := qc.out.facts
  have c7 := qc.out.lt
  go_wp2_with fail
  have hBp := hB
  refine (Valid_any g2 n2 d2 _ (hE.out.below hBp.out).1 (by omega) (by omega)).mono ?_
  rintro e w3 ⟨rfl, hb⟩
  rw [v2.out]
  clear a1 a2 a3 a4 a5 a6 a7 b1 b2 b3 b4 b5 b6 b7 c1 c2 c3 c4 c5 c6 c7
  replace qa := Lib.hid (qa.out.below hb)
  replace qb := Lib.hid (qb.out.below hb)
  replace qc := Lib.hid (qc.out.below hb)
  replace hB := Lib.hid (hBp.out.trans (hb.mono hBp.out.size))
  clear hb hBp
  obtain ⟨a1, a2, a3, a4, a5, a6⟩ := qa.out.facts
  have a7 := qa.out.lt
  obtain ⟨b1, b2, b3, b4, b5, b6⟩ := qb.out.facts
  have b7 := qb.out.lt
  obtain ⟨c1, c2, c3, c4, c5, c6⟩ := qc.out.facts
  have c7 := qc.out.lt
  go_wp2
  go_ret
  exact ⟨rfl, hB.out⟩

set_option maxRecDepth 100000 in
set_option maxHeartbeats 4000000 in
theorem field_bad3 (g1 g2 g3 : Bool) (n1 d1 n2 d2 n3 d3 : ByteArray) (sn1 : n1.size ≤ 140737488355328) (sd1 : d1.size ≤ 140737488355328) (sn2 : n2.size ≤ 140737488355328) (sd2 : d2.size ≤ 140737488355328) (sn3 : n3.size ≤ 140737488355328) (sd3 : d3.size ≤ 140737488355328) (w : World) (hE : REnv w) (hs : shortB 40 [(n1, d1), (n2, d2), (n3, d3)] = true) (v1 : validB g1 n1 d1 = true) (v2 : validB g2 n2 d2 = true) (v3 : validB g3 n3 d3 = false) :
    Calls Tryz.prog 5 #[.agg #[.bool g1, .string n1, .string d1], .agg #[.bool g2, .string n2, .string d2], .agg #[.bool g3, .string n3, .string d3]] w fun e w' => e = .returned (.bool true) ∧ Below w.heap.size w w' := by
  replace hE := Lib.hid hE
  replace hs := Lib.hid hs
  replace v1 := Lib.hid v1
  replace v2 := Lib.hid v2
  replace v3 := Lib.hid v3
  go_enter Tryz.func5, Tryz.ntmps5
  go_wp2_with fail
  refine (rhead_any _ (hE.out.below (triW_below w g1 g2 g3 n1 d1 n2 d2 n3 d3))).mono ?_
  rintro e w0 ⟨rfl, hb⟩
  obtain ⟨qa, qb, qc⟩ := triW_boxes w g1 g2 g3 n1 d1 n2 d2 n3 d3
  replace qa := Lib.hid (qa.below hb)
  replace qb := Lib.hid (qb.below hb)
  replace qc := Lib.hid (qc.below hb)
  have hB := Lib.hid ((triW_below w g1 g2 g3 n1 d1 n2 d2 n3 d3).trans (hb.mono (triW_below w g1 g2 g3 n1 d1 n2 d2 n3 d3).size))
  clear hb
  obtain ⟨a1, a2, a3, a4, a5, a6⟩ := qa.out.facts
  have a7 := qa.out.lt
  obtain ⟨b1, b2, b3, b4, b5, b6⟩ := qb.out.facts
  have b7 := qb.out.lt
  obtain ⟨c1, c2, c3, c4, c5, c6⟩ := qc.out.facts
  have c7 := qc.out.lt
  go_wp2_with fail
  refine (short_any 40 [(n1, d1), (n2, d2), (n3, d3)] w0.heap.size 3 _ (by simp) (raws3 w0 g1 g2 g3 n1 d1 n2 d2 n3 d3)).mono ?_
  rintro e w1 ⟨rfl, rfl⟩
  rw [hs.out]
  obtain ⟨w1, hw1⟩ : ∃ W, W = w0.alloc (.cells #[.bool g1, .string n1, .string d1, .bool g2, .string n2, .string d2, .bool g3, .string n3, .string d3] 23) := ⟨_, rfl⟩
  rw [← hw1]
  clear a1 a2 a3 a4 a5 a6 a7 b1 b2 b3 b4 b5 b6 b7 c1 c2 c3 c4 c5 c6 c7
  replace qa : Hid (B3 w1 w.heap.size g1 n1 d1) := by rw [hw1]; exact qa.out.alloc _
  replace qb : Hid (B3 w1 (w.heap.size + 1) g2 n2 d2) := by rw [hw1]; exact qb.out.alloc _
  replace qc : Hid (B3 w1 (w.heap.size + 1 + 1) g3 n3 d3) := by rw [hw1]; exact qc.out.alloc _
  replace hB : Hid (Below w.heap.size w w1) := by rw [hw1]; exact hB.out.alloc hB.out.size _
  clear hw1
  obtain ⟨a1, a2, a3, a4, a5, a6⟩ := qa.out.facts
  have a7 := qa.out.lt
  obtain ⟨b1, b2, b3, b4, b5, b6⟩ := qb.out.facts
  have b7 := qb.out.lt
  obtain ⟨c1, c2, c3, c4, c5, c6⟩ := qc.out.facts
  have c7 := qc.out.lt
  go_wp2_with fail
  have hBp := hB
  refine (Valid_any g1 n1 d1 _ (hE.out.below hBp.out).1 (by omega) (by omega)).mono ?_
  rintro e w2 ⟨rfl, hb⟩
  rw [v1.out]
  clear a1 a2 a3 a4 a5 a6 a7 b1 b2 b3 b4 b5 b6 b7 c1 c2 c3 c4 c5 c6 c7
  replace qa := Lib.hid (qa.out.below hb)
  replace qb := Lib.hid (qb.out.below hb)
  replace qc := Lib.hid (qc.out.below hb)
  replace hB := Lib.hid (hBp.out.trans (hb.mono hBp.out.size))
  clear hb hBp
  obtain ⟨a1, a2, a3, a4, a5, a6⟩ := qa.out.facts
  have a7 := qa.out.lt
  obtain ⟨b1, b2, b3, b4, b5, b6⟩ := qb.out.facts
  have b7 := qb.out.lt
  obtain ⟨c1, c2, c3, c4, c5, c6⟩ := qc.out.facts
  have c7 := qc.out.lt
  go_wp2_with fail
  have hBp := hB
  refine (Valid_any g2 n2 d2 _ (hE.out.below hBp.out).1 (by omega) (by omega)).mono ?_
  rintro e w3 ⟨rfl, hb⟩
  rw [v2.out]
  clear a1 a2 a3 a4 a5 a6 a7 b1 b2 b3 b4 b5 b6 b7 c1 c2 c3 c4 c5 c6 c7
  replace qa := Lib.hid (qa.out.below hb)
  replace qb := Lib.hid (qb.out.below hb)
  replace qc := Lib.hid (qc.out.below hb)
  replace hB := Lib.hid (hBp.out.trans (hb.mono hBp.out.size))
  clear hb hBp
  obtain ⟨a1, a2, a3, a4, a5, a6⟩ := qa.out.facts
  have a7 := qa.out.lt
  obtain ⟨b1, b2, b3, b4, b5, b6⟩ := qb.out.facts
  have b7 := qb.out.lt
  obtain ⟨c1, c2, c3, c4, c5, c6⟩ := qc.out.facts
  have c7 := qc.out.lt
  go_wp2_with fail
  have hBp := hB
  refine (Valid_any g3 n3 d3 _ (hE.out.below hBp.out).1 (by omega) (by omega)).mono ?_
  rintro e w4 ⟨rfl, hb⟩
  rw [v3.out]
  clear a1 a2 a3 a4 a5 a6 a7 b1 b2 b3 b4 b5 b6 b7 c1 c2 c3 c4 c5 c6 c7
  replace qa := Lib.hid (qa.out.below hb)
  replace qb := Lib.hid (qb.out.below hb)
  replace qc := Lib.hid (qc.out.below hb)
  replace hB := Lib.hid (hBp.out.trans (hb.mono hBp.out.size))
  clear hb hBp
  obtain ⟨a1, a2, a3, a4, a5, a6⟩ := qa.out.facts
  have a7 := qa.out.lt
  obtain ⟨b1, b2, b3, b4, b5, b6⟩ := qb.out.facts
  have b7 := qb.out.lt
  obtain ⟨c1, c2, c3, c4, c5, c6⟩ := qc.out.facts
  have c7 := qc.out.lt
  go_wp2
  go_ret
  exact ⟨rfl, hB.out⟩

set_option maxRecDepth 100000 in
set_option maxHeartbeats 4000000 in
theorem field_nz_good (a b c : Rat) (Oa : OkQ a) (Ob : OkQ b) (Oc : OkQ c) (Da : Dg 40 a) (Db : Dg 40 b) (Dc : Dg 40 c) (hb0 : b ≠ 0) (w : World) (hE : REnv w) (hs : shortB 40 [((T (some a.num.natAbs)), (T (some a.den))), ((T (some b.num.natAbs)), (T (some b.den))), ((T (some c.num.natAbs)), (T (some c.den)))] = true) :
    Calls Tryz.prog 5 #[qv a, qv b, qv c] w fun e w' => e = .returned (.bool true) ∧ Below w.heap.size w w' := by
  have Va := Lib.hid (valid_qv Oa)
  have za := size_of_valid Va.out
  have Vb := Lib.hid (valid_qv Ob)
  have zb := size_of_valid Vb.out
  have Vc := Lib.hid (valid_qv Oc)
  have zc := size_of_valid Vc.out
  replace hE := Lib.hid hE
  replace hs := Lib.hid hs
  obtain ⟨ab, hab⟩ : ∃ r, r = a + b := ⟨_, rfl⟩
  have Dab : Dg 81 ab := by rw [hab]; exact Da.add Db
  obtain ⟨bc, hbc⟩ : ∃ r, r = b + c := ⟨_, rfl⟩
  have Dbc : Dg 81 bc := by rw [hbc]; exact Db.add Dc
  obtain ⟨x, hx⟩ : ∃ r, r = ab + c := ⟨_, rfl⟩
  have Dx : Dg 122 x := by rw [hx]; exact Dab.add Dc
  obtain ⟨p, hp⟩ : ∃ r, r = a * b := ⟨_, rfl⟩
  have Dp : Dg 80 p := by rw [hp]; exact Da.mul Db
  obtain ⟨ac, hac⟩ : ∃ r, r = a * c := ⟨_, rfl⟩
  have Dac : Dg 80 ac := by rw [hac]; exact Da.mul Dc
  obtain ⟨u, hu⟩ : ∃ r, r = a * bc := ⟨_, rfl⟩
  have Du : Dg 121 u := by rw [hu]; exact Da.mul Dbc
  obtain ⟨d, hd⟩ : ∃ r, r = a - b := ⟨_, rfl⟩
  have Dd : Dg 81 d := by rw [hd]; exact Da.sub Db
  have kc1 := fun W (h : Env W) => Add_short a b (Da.short (by omega)) (Db.short (by omega)) W h
  rw [← hab] at kc1
  simp only [qv] at kc1
  replace kc1 := Lib.hid kc1
  have kc2 := fun W (h : Env W) => Add_short b a (Db.short (by omega)) (Da.short (by omega)) W h
  rw [Rat.add_comm b a, ← hab] at kc2
  simp only [qv] at kc2
  replace kc2 := Lib.hid kc2
  have kc3 := fun W (h : Env W) => Add_short b c (Db.short (by omega)) (Dc.short (by omega)) W h
  rw [← hbc] at kc3
  simp only [qv] at kc3
  replace kc3 := Lib.hid kc3
  have kc4 := fun W (h : Env W) => Add_short ab c (Dab.short (by omega)) (Dc.short (by omega)) W h
  rw [← hx] at kc4
  simp only [qv] at kc4
  replace kc4 := Lib.hid kc4
  have kc5 := fun W (h : Env W) => Add_short a bc (Da.short (by omega)) (Dbc.short (by omega)) W h
  rw [show a + bc = x by rw [hx, hab, hbc, Rat.add_assoc]] at kc5
  simp only [qv] at kc5
  replace kc5 := Lib.hid kc5
  have kc6 := fun W (h : Env W) => Mul_short a b (Da.short (by omega)) (Db.short (by omega)) W h
  rw [← hp] at kc6
  simp only [qv] at kc6
  replace kc6 := Lib.hid kc6
  have kc7 := fun W (h : Env W) => Mul_short b a (Db.short (by omega)) (Da.short (by omega)) W h
  rw [Rat.mul_comm b a, ← hp] at kc7
  simp only [qv] at kc7
  replace kc7 := Lib.hid kc7
  have kc8 := fun W (h : Env W) => Mul_short a c (Da.short (by omega)) (Dc.short (by omega)) W h
  rw [← hac] at kc8
  simp only [qv] at kc8
  replace kc8 := Lib.hid kc8
  have kc9 := fun W (h : Env W) => Mul_short a bc (Da.short (by omega)) (Dbc.short (by omega)) W h
  rw [← hu] at kc9
  simp only [qv] at kc9
  replace kc9 := Lib.hid kc9
  have kc10 := fun W (h : Env W) => Add_short p ac (Dp.short (by omega)) (Dac.short (by omega)) W h
  rw [show p + ac = u by rw [hu, hp, hac, hbc, Rat.mul_add]] at kc10
  simp only [qv] at kc10
  replace kc10 := Lib.hid kc10
  have kc11 := fun W (h : Env W) => Sub_short a b (Da.short (by omega)) (Db.short (by omega)) W h
  rw [← hd] at kc11
  simp only [qv] at kc11
  replace kc11 := Lib.hid kc11
  have kc12 := fun W (h : Env W) => Add_short d b (Dd.short (by omega)) (Db.short (by omega)) W h
  rw [show d + b = a by rw [hd, Rat.sub_add_cancel]] at kc12
  simp only [qv] at kc12
  replace kc12 := Lib.hid kc12
  obtain ⟨z, hz⟩ : ∃ r, r = a / b := ⟨_, rfl⟩
  have Dz : Dg 80 z := by rw [hz]; exact Da.div Db hb0
  have kc13 := fun W (h : Env W) => Div_short a b (Da.short (by omega)) (Db.short (by omega)) hb0 W h
  rw [← hz] at kc13
  simp only [qv] at kc13
  replace kc13 := Lib.hid kc13
  have kc14 := fun W (h : Env W) => Mul_short z b (Dz.short (by omega)) (Db.short (by omega)) W h
  rw [show z * b = a by rw [hz, Rat.div_mul_cancel hb0]] at kc14
  simp only [qv] at kc14
  replace kc14 := Lib.hid kc14
  have hbn := num_ne_zero hb0
  have zb0 := T_is_zero b.num.natAbs
  rw [decide_eq_false (by omega)] at zb0
  clear hab hbc hx hp hac hu hd Dab Dbc Dx Dp Dac Du Dd hz Dz hbn
  replace hb0 := Lib.hid hb0
  clear Oa Ob Oc Da Db Dc
  simp only [qv]
  go_enter Tryz.func5, Tryz.ntmps5
  go_wp2_with fail
  refine (rhead_any _ (hE.out.below (triW_below w (decide (a.num < 0)) (decide (b.num < 0)) (decide (c.num < 0)) (T (some a.num.natAbs)) (T (some a.den)) (T (some b.num.natAbs)) (T (some b.den)) (T (some c.num.natAbs)) (T (some c.den))))).mono ?_
  rintro e w0 ⟨rfl, hb⟩
  obtain ⟨qa, qb, qc⟩ := triW_boxes w (decide (a.num < 0)) (decide (b.num < 0)) (decide (c.num < 0)) (T (some a.num.natAbs)) (T (some a.den)) (T (some b.num.natAbs)) (T (some b.den)) (T (some c.num.natAbs)) (T (some c.den))
  replace qa := Lib.hid (qa.below hb)
  replace qb := Lib.hid (qb.below hb)
  replace qc := Lib.hid (qc.below hb)
  have hB := Lib.hid ((triW_below w (decide (a.num < 0)) (decide (b.num < 0)) (decide (c.num < 0)) (T (some a.num.natAbs)) (T (some a.den)) (T (some b.num.natAbs)) (T (some b.den)) (T (some c.num.natAbs)) (T (some c.den))).trans (hb.mono (triW_below w (decide (a.num < 0)) (decide (b.num < 0)) (decide (c.num < 0)) (T (some a.num.natAbs)) (T (some a.den)) (T (some b.num.natAbs)) (T (some b.den)) (T (some c.num.natAbs)) (T (some c.den))).size))
  clear hb
  obtain ⟨a1, a2, a3, a4, a5, a6⟩ := qa.out.facts
  have a7 := qa.out.lt
  obtain ⟨b1, b2, b3, b4, b5, b6⟩ := qb.out.facts
  have b7 := qb.out.lt
  obtain ⟨c1, c2, c3, c4, c5, c6⟩ := qc.out.facts
  have c7 := qc.out.lt
  go_wp2_with fail
  refine (short_any 40 [((T (some a.num.natAbs)), (T (some a.den))), ((T (some b.num.natAbs)), (T (some b.den))), ((T (some c.num.natAbs)), (T (some c.den)))] w0.heap.size 3 _ (by simp) (raws3 w0 (decide (a.num < 0)) (decide (b.num < 0)) (decide (c.num < 0)) (T (some a.num.natAbs)) (T (some a.den)) (T (some b.num.natAbs)) (T (some b.den)) (T (some c.num.natAbs)) (T (some c.den)))).mono ?_
  rintro e w1 ⟨rfl, rfl⟩
  rw [hs.out]
  obtain ⟨w1, hw1⟩ : ∃ W, W = w0.alloc (.cells #[.bool (decide (a.num < 0)), .string (T (some a.num.natAbs)), .string (T (some a.den)), .bool (decide (b.num < 0)), .string (T (some b.num.natAbs)), .string (T (some b.den)), .bool (decide (c.num < 0)), .string (T (some c.num.natAbs)), .string (T (some c.den))] 23) := ⟨_, rfl⟩
  rw [← hw1]
  clear a1 a2 a3 a4 a5 a6 a7 b1 b2 b3 b4 b5 b6 b7 c1 c2 c3 c4 c5 c6 c7
  replace qa : Hid (B3 w1 w.heap.size (decide (a.num < 0)) (T (some a.num.natAbs)) (T (some a.den))) := by rw [hw1]; exact qa.out.alloc _
  replace qb : Hid (B3 w1 (w.heap.size + 1) (decide (b.num < 0)) (T (some b.num.natAbs)) (T (some b.den))) := by rw [hw1]; exact qb.out.alloc _
  replace qc : Hid (B3 w1 (w.heap.size + 1 + 1) (decide (c.num < 0)) (T (some c.num.natAbs)) (T (some c.den))) := by rw [hw1]; exact qc.out.alloc _
  replace hB : Hid (Below w.heap.size w w1) := by rw [hw1]; exact hB.out.alloc hB.out.size _
  clear hw1
  obtain ⟨a1, a2, a3, a4, a5, a6⟩ := qa.out.facts
  have a7 := qa.out.lt
  obtain ⟨b1, b2, b3, b4, b5, b6⟩ := qb.out.facts
  have b7 := qb.out.lt
  obtain ⟨c1, c2, c3, c4, c5, c6⟩ := qc.out.facts
  have c7 := qc.out.lt
  go_wp2_with fail
  have hBp := hB
  refine (Valid_any (decide (a.num < 0)) (T (some a.num.natAbs)) (T (some a.den)) _ (hE.out.below hBp.out).1 (by omega) (by omega)).mono ?_
  rintro e w2 ⟨rfl, hb⟩
  rw [Va.out]
  clear a1 a2 a3 a4 a5 a6 a7 b1 b2 b3 b4 b5 b6 b7 c1 c2 c3 c4 c5 c6 c7
  replace qa := Lib.hid (qa.out.below hb)
  replace qb := Lib.hid (qb.out.below hb)
  replace qc := Lib.hid (qc.out.below hb)
  replace hB := Lib.hid (hBp.out.trans (hb.mono hBp.out.size))
  clear hb hBp
  obtain ⟨a1, a2, a3, a4, a5, a6⟩ := qa.out.facts
  have a7 := qa.out.lt
  obtain ⟨b1, b2, b3, b4, b5, b6⟩ := qb.out.facts
  have b7 := qb.out.lt
  obtain ⟨c1, c2, c3, c4, c5, c6⟩ := qc.out.facts
  have c7 := qc.out.lt
  go_wp2_with fail
  have hBp := hB
  refine (Valid_any (decide (b.num < 0)) (T (some b.num.natAbs)) (T (some b.den)) _ (hE.out.below hBp.out).1 (by omega) (by omega)).mono ?_
  rintro e w3 ⟨rfl, hb⟩
  rw [Vb.out]
  clear a1 a2 a3 a4 a5 a6 a7 b1 b2 b3 b4 b5 b6 b7 c1 c2 c3 c4 c5 c6 c7
  replace qa := Lib.hid (qa.out.below hb)
  replace qb := Lib.hid (qb.out.below hb)
  replace qc := Lib.hid (qc.out.below hb)
  replace hB := Lib.hid (hBp.out.trans (hb.mono hBp.out.size))
  clear hb hBp
  obtain ⟨a1, a2, a3, a4, a5, a6⟩ := qa.out.facts
  have a7 := qa.out.lt
  obtain ⟨b1, b2, b3, b4, b5, b6⟩ := qb.out.facts
  have b7 := qb.out.lt
  obtain ⟨c1, c2, c3, c4, c5, c6⟩ := qc.out.facts
  have c7 := qc.out.lt
  go_wp2_with fail
  have hBp := hB
  refine (Valid_any (decide (c.num < 0)) (T (some c.num.natAbs)) (T (some c.den)) _ (hE.out.below hBp.out).1 (by omega) (by omega)).mono ?_
  rintro e w4 ⟨rfl, hb⟩
  rw [Vc.out]
  clear a1 a2 a3 a4 a5 a6 a7 b1 b2 b3 b4 b5 b6 b7 c1 c2 c3 c4 c5 c6 c7
  replace qa := Lib.hid (qa.out.below hb)
  replace qb := Lib.hid (qb.out.below hb)
  replace qc := Lib.hid (qc.out.below hb)
  replace hB := Lib.hid (hBp.out.trans (hb.mono hBp.out.size))
  clear hb hBp
  obtain ⟨a1, a2, a3, a4, a5, a6⟩ := qa.out.facts
  have a7 := qa.out.lt
  obtain ⟨b1, b2, b3, b4, b5, b6⟩ := qb.out.facts
  have b7 := qb.out.lt
  obtain ⟨c1, c2, c3, c4, c5, c6⟩ := qc.out.facts
  have c7 := qc.out.lt
  go_wp2_with fail
  have hBp := hB
  refine (kc1.out _ (hE.out.below hBp.out).1).mono ?_
  rintro e w5 ⟨rfl, hb⟩
  clear a1 a2 a3 a4 a5 a6 a7 b1 b2 b3 b4 b5 b6 b7 c1 c2 c3 c4 c5 c6 c7
  replace qa := Lib.hid (qa.out.below hb)
  replace qb := Lib.hid (qb.out.below hb)
  replace qc := Lib.hid (qc.out.below hb)
  replace hB := Lib.hid (hBp.out.trans (hb.mono hBp.out.size))
  clear hb hBp
  obtain ⟨a1, a2, a3, a4, a5, a6⟩ := qa.out.facts
  have a7 := qa.out.lt
  obtain ⟨b1, b2, b3, b4, b5, b6⟩ := qb.out.facts
  have b7 := qb.out.lt
  go_wp2_with fail
  have hBp : Hid (Below w.heap.size w (w5.alloc (.cells #[.bool (decide (ab.num < 0)), .string (T (some ab.num.natAbs)), .string (T (some ab.den))] 23))) := hB.out.alloc hB.out.size _
  refine (kc2.out _ (hE.out.below hBp.out).1).mono ?_
  rintro e w6 ⟨rfl, hb⟩
  clear a1 a2 a3 a4 a5 a6 a7 b1 b2 b3 b4 b5 b6 b7
  replace qa := Lib.hid ((qa.out.alloc _).below hb)
  replace qb := Lib.hid ((qb.out.alloc _).below hb)
  replace qc := Lib.hid ((qc.out.alloc _).below hb)
  have qab := Lib.hid ((B3.new w5 (decide (ab.num < 0)) (T (some ab.num.natAbs)) (T (some ab.den))).below hb)
  replace hB := Lib.hid (hBp.out.trans (hb.mono hBp.out.size))
  clear hb hBp
  obtain ⟨b1, b2, b3, b4, b5, b6⟩ := qb.out.facts
  have b7 := qb.out.lt
  obtain ⟨c1, c2, c3, c4, c5, c6⟩ := qc.out.facts
  have c7 := qc.out.lt
  go_wp2_with fail
  have hBp : Hid (Below w.heap.size w (w6.alloc (.cells #[.bool (decide (ab.num < 0)), .string (T (some ab.num.natAbs)), .string (T (some ab.den))] 23))) := hB.out.alloc hB.out.size _
  refine (kc3.out _ (hE.out.below hBp.out).1).mono ?_
  rintro e w7 ⟨rfl, hb⟩
  clear b1 b2 b3 b4 b5 b6 b7 c1 c2 c3 c4 c5 c6 c7
  replace qa := Lib.hid ((qa.out.alloc _).below hb)
  replace qb := Lib.hid ((qb.out.alloc _).below hb)
  replace qc := Lib.hid ((qc.out.alloc _).below hb)
  replace qab := Lib.hid ((qab.out.alloc _).below hb)
  have qba := Lib.hid ((B3.new w6 (decide (ab.num < 0)) (T (some ab.num.natAbs)) (T (some ab.den))).below hb)
  replace hB := Lib.hid (hBp.out.trans (hb.mono hBp.out.size))
  clear hb hBp
  obtain ⟨ab1, ab2, ab3, ab4, ab5, ab6⟩ := qab.out.facts
  have ab7 := qab.out.lt
  obtain ⟨c1, c2, c3, c4, c5, c6⟩ := qc.out.facts
  have c7 := qc.out.lt
  go_wp2_with fail
  have hBp : Hid (Below w.heap.size w (w7.alloc (.cells #[.bool (decide (bc.num < 0)), .string (T (some bc.num.natAbs)), .string (T (some bc.den))] 23))) := hB.out.alloc hB.out.size _
  refine (kc4.out _ (hE.out.below hBp.out).1).mono ?_
  rintro e w8 ⟨rfl, hb⟩
  clear ab1 ab2 ab3 ab4 ab5 ab6 ab7 c1 c2 c3 c4 c5 c6 c7
  replace qa := Lib.hid ((qa.out.alloc _).below hb)
  replace qb := Lib.hid ((qb.out.alloc _).below hb)
  replace qc := Lib.hid ((qc.out.alloc _).below hb)
  replace qab := Lib.hid ((qab.out.alloc _).below hb)
  replace qba := Lib.hid ((qba.out.alloc _).below hb)
  have qbc := Lib.hid ((B3.new w7 (decide (bc.num < 0)) (T (some bc.num.natAbs)) (T (some bc.den))).below hb)
  replace hB := Lib.hid (hBp.out.trans (hb.mono hBp.out.size))
  clear hb hBp
  obtain ⟨a1, a2, a3, a4, a5, a6⟩ := qa.out.facts
  have a7 := qa.out.lt
  obtain ⟨bc1, bc2, bc3, bc4, bc5, bc6⟩ := qbc.out.facts
  have bc7 := qbc.out.lt
  go_wp2_with fail
  have hBp : Hid (Below w.heap.size w (w8.alloc (.cells #[.bool (decide (x.num < 0)), .string (T (some x.num.natAbs)), .string (T (some x.den))] 23))) := hB.out.alloc hB.out.size _
  refine (kc5.out _ (hE.out.below hBp.out).1).mono ?_
  rintro e w9 ⟨rfl, hb⟩
  clear a1 a2 a3 a4 a5 a6 a7 bc1 bc2 bc3 bc4 bc5 bc6 bc7
  replace qa := Lib.hid ((qa.out.alloc _).below hb)
  replace qb := Lib.hid ((qb.out.alloc _).below hb)
  replace qc := Lib.hid ((qc.out.alloc _).below hb)
  replace qab := Lib.hid ((qab.out.alloc _).below hb)
  replace qba := Lib.hid ((qba.out.alloc _).below hb)
  replace qbc := Lib.hid ((qbc.out.alloc _).below hb)
  have qx := Lib.hid ((B3.new w8 (decide (x.num < 0)) (T (some x.num.natAbs)) (T (some x.den))).below hb)
  replace hB := Lib.hid (hBp.out.trans (hb.mono hBp.out.size))
  clear hb hBp
  obtain ⟨a1, a2, a3, a4, a5, a6⟩ := qa.out.facts
  have a7 := qa.out.lt
  obtain ⟨b1, b2, b3, b4, b5, b6⟩ := qb.out.facts
  have b7 := qb.out.lt
  go_wp2_with fail
  have hBp : Hid (Below w.heap.size w (w9.alloc (.cells #[.bool (decide (x.num < 0)), .string (T (some x.num.natAbs)), .string (T (some x.den))] 23))) := hB.out.alloc hB.out.size _
  refine (kc6.out _ (hE.out.below hBp.out).1).mono ?_
  rintro e w10 ⟨rfl, hb⟩
  clear a1 a2 a3 a4 a5 a6 a7 b1 b2 b3 b4 b5 b6 b7
  replace qa := Lib.hid ((qa.out.alloc _).below hb)
  replace qb := Lib.hid ((qb.out.alloc _).below hb)
  replace qc := Lib.hid ((qc.out.alloc _).below hb)
  replace qab := Lib.hid ((qab.out.alloc _).below hb)
  replace qba := Lib.hid ((qba.out.alloc _).below hb)
  replace qbc := Lib.hid ((qbc.out.alloc _).below hb)
  replace qx := Lib.hid ((qx.out.alloc _).below hb)
  have qy := Lib.hid ((B3.new w9 (decide (x.num < 0)) (T (some x.num.natAbs)) (T (some x.den))).below hb)
  replace hB := Lib.hid (hBp.out.trans (hb.mono hBp.out.size))
  clear hb hBp
  obtain ⟨a1, a2, a3, a4, a5, a6⟩ := qa.out.facts
  have a7 := qa.out.lt
  obtain ⟨b1, b2, b3, b4, b5, b6⟩ := qb.out.facts
  have b7 := qb.out.lt
  go_wp2_with fail
  have hBp : Hid (Below w.heap.size w (w10.alloc (.cells #[.bool (decide (p.num < 0)), .string (T (some p.num.natAbs)), .string (T (some p.den))] 23))) := hB.out.alloc hB.out.size _
  refine (kc7.out _ (hE.out.below hBp.out).1).mono ?_
  rintro e w11 ⟨rfl, hb⟩
  clear a1 a2 a3 a4 a5 a6 a7 b1 b2 b3 b4 b5 b6 b7
  replace qa := Lib.hid ((qa.out.alloc _).below hb)
  replace qb := Lib.hid ((qb.out.alloc _).below hb)
  replace qc := Lib.hid ((qc.out.alloc _).below hb)
  replace qab := Lib.hid ((qab.out.alloc _).below hb)
  replace qba := Lib.hid ((qba.out.alloc _).below hb)
  replace qbc := Lib.hid ((qbc.out.alloc _).below hb)
  replace qx := Lib.hid ((qx.out.alloc _).below hb)
  replace qy := Lib.hid ((qy.out.alloc _).below hb)
  have qp := Lib.hid ((B3.new w10 (decide (p.num < 0)) (T (some p.num.natAbs)) (T (some p.den))).below hb)
  replace hB := Lib.hid (hBp.out.trans (hb.mono hBp.out.size))
  clear hb hBp
  obtain ⟨a1, a2, a3, a4, a5, a6⟩ := qa.out.facts
  have a7 := qa.out.lt
  obtain ⟨c1, c2, c3, c4, c5, c6⟩ := qc.out.facts
  have c7 := qc.out.lt
  go_wp2_with fail
  have hBp : Hid (Below w.heap.size w (w11.alloc (.cells #[.bool (decide (p.num < 0)), .string (T (some p.num.natAbs)), .string (T (some p.den))] 23))) := hB.out.alloc hB.out.size _
  refine (kc8.out _ (hE.out.below hBp.out).1).mono ?_
  rintro e w12 ⟨rfl, hb⟩
  clear a1 a2 a3 a4 a5 a6 a7 c1 c2 c3 c4 c5 c6 c7
  replace qa := Lib.hid ((qa.out.alloc _).below hb)
  replace qb := Lib.hid ((qb.out.alloc _).below hb)
  replace qc := Lib.hid ((qc.out.alloc _).below hb)
  replace qab := Lib.hid ((qab.out.alloc _).below hb)
  replace qba := Lib.hid ((qba.out.alloc _).below hb)
  replace qbc := Lib.hid ((qbc.out.alloc _).below hb)
  replace qx := Lib.hid ((qx.out.alloc _).below hb)
  replace qy := Lib.hid ((qy.out.alloc _).below hb)
  replace qp := Lib.hid ((qp.out.alloc _).below hb)
  have qq := Lib.hid ((B3.new w11 (decide (p.num < 0)) (T (some p.num.natAbs)) (T (some p.den))).below hb)
  replace hB := Lib.hid (hBp.out.trans (hb.mono hBp.out.size))
  clear hb hBp
  obtain ⟨a1, a2, a3, a4, a5, a6⟩ := qa.out.facts
  have a7 := qa.out.lt
  obtain ⟨bc1, bc2, bc3, bc4, bc5, bc6⟩ := qbc.out.facts
  have bc7 := qbc.out.lt
  go_wp2_with fail
  have hBp : Hid (Below w.heap.size w (w12.alloc (.cells #[.bool (decide (ac.num < 0)), .string (T (some ac.num.natAbs)), .string (T (some ac.den))] 23))) := hB.out.alloc hB.out.size _
  refine (kc9.out _ (hE.out.below hBp.out).1).mono ?_
  rintro e w13 ⟨rfl, hb⟩
  clear a1 a2 a3 a4 a5 a6 a7 bc1 bc2 bc3 bc4 bc5 bc6 bc7
  replace qa := Lib.hid ((qa.out.alloc _).below hb)
  replace qb := Lib.hid ((qb.out.alloc _).below hb)
  replace qc := Lib.hid ((qc.out.alloc _).below hb)
  replace qab := Lib.hid ((qab.out.alloc _).below hb)
  replace qba := Lib.hid ((qba.out.alloc _).below hb)
  replace qbc := Lib.hid ((qbc.out.alloc _).below hb)
  replace qx := Lib.hid ((qx.out.alloc _).below hb)
  replace qy := Lib.hid ((qy.out.alloc _).below hb)
  replace qp := Lib.hid ((qp.out.alloc _).below hb)
  replace qq := Lib.hid ((qq.out.alloc _).below hb)
  have qac := Lib.hid ((B3.new w12 (decide (ac.num < 0)) (T (some ac.num.natAbs)) (T (some ac.den))).below hb)
  replace hB := Lib.hid (hBp.out.trans (hb.mono hBp.out.size))
  clear hb hBp
  obtain ⟨p1, p2, p3, p4, p5, p6⟩ := qp.out.facts
  have p7 := qp.out.lt
  obtain ⟨ac1, ac2, ac3, ac4, ac5, ac6⟩ := qac.out.facts
  have ac7 := qac.out.lt
  go_wp2_with fail
  have hBp : Hid (Below w.heap.size w (w13.alloc (.cells #[.bool (decide (u.num < 0)), .string (T (some u.num.natAbs)), .string (T (some u.den))] 23))) := hB.out.alloc hB.out.size _
  refine (kc10.out _ (hE.out.below hBp.out).1).mono ?_
  rintro e w14 ⟨rfl, hb⟩
  clear p1 p2 p3 p4 p5 p6 p7 ac1 ac2 ac3 ac4 ac5 ac6 ac7
  replace qa := Lib.hid ((qa.out.alloc _).below hb)
  replace qb := Lib.hid ((qb.out.alloc _).below hb)
  replace qc := Lib.hid ((qc.out.alloc _).below hb)
  replace qab := Lib.hid ((qab.out.alloc _).below hb)
  replace qba := Lib.hid ((qba.out.alloc _).below hb)
  replace qbc := Lib.hid ((qbc.out.alloc _).below hb)
  replace qx := Lib.hid ((qx.out.alloc _).below hb)
  replace qy := Lib.hid ((qy.out.alloc _).below hb)
  replace qp := Lib.hid ((qp.out.alloc _).below hb)
  replace qq := Lib.hid ((qq.out.alloc _).below hb)
  replace qac := Lib.hid ((qac.out.alloc _).below hb)
  have qu := Lib.hid ((B3.new w13 (decide (u.num < 0)) (T (some u.num.natAbs)) (T (some u.den))).below hb)
  replace hB := Lib.hid (hBp.out.trans (hb.mono hBp.out.size))
  clear hb hBp
  obtain ⟨a1, a2, a3, a4, a5, a6⟩ := qa.out.facts
  have a7 := qa.out.lt
  obtain ⟨b1, b2, b3, b4, b5, b6⟩ := qb.out.facts
  have b7 := qb.out.lt
  go_wp2_with fail
  have hBp : Hid (Below w.heap.size w (w14.alloc (.cells #[.bool (decide (u.num < 0)), .string (T (some u.num.natAbs)), .string (T (some u.den))] 23))) := hB.out.alloc hB.out.size _
  refine (kc11.out _ (hE.out.below hBp.out).1).mono ?_
  rintro e w15 ⟨rfl, hb⟩
  clear a1 a2 a3 a4 a5 a6 a7 b1 b2 b3 b4 b5 b6 b7
  replace qa := Lib.hid ((qa.out.alloc _).below hb)
  replace qb := Lib.hid ((qb.out.alloc _).below hb)
  replace qc := Lib.hid ((qc.out.alloc _).below hb)
  replace qab := Lib.hid ((qab.out.alloc _).below hb)
  replace qba := Lib.hid ((qba.out.alloc _).below hb)
  replace qbc := Lib.hid ((qbc.out.alloc _).below hb)
  replace qx := Lib.hid ((qx.out.alloc _).below hb)
  replace qy := Lib.hid ((qy.out.alloc _).below hb)
  replace qp := Lib.hid ((qp.out.alloc _).below hb)
  replace qq := Lib.hid ((qq.out.alloc _).below hb)
  replace qac := Lib.hid ((qac.out.alloc _).below hb)
  replace qu := Lib.hid ((qu.out.alloc _).below hb)
  have qv := Lib.hid ((B3.new w14 (decide (u.num < 0)) (T (some u.num.natAbs)) (T (some u.den))).below hb)
  replace hB := Lib.hid (hBp.out.trans (hb.mono hBp.out.size))
  clear hb hBp
  obtain ⟨b1, b2, b3, b4, b5, b6⟩ := qb.out.facts
  have b7 := qb.out.lt
  go_wp2_with fail
  have hBp : Hid (Below w.heap.size w (w15.alloc (.cells #[.bool (decide (d.num < 0)), .string (T (some d.num.natAbs)), .string (T (some d.den))] 23))) := hB.out.alloc hB.out.size _
  refine (kc12.out _ (hE.out.below hBp.out).1).mono ?_
  rintro e w16 ⟨rfl, hb⟩
  clear b1 b2 b3 b4 b5 b6 b7
  replace qa := Lib.hid ((qa.out.alloc _).below hb)
  replace qb := Lib.hid ((qb.out.alloc _).below hb)
  replace qc := Lib.hid ((qc.out.alloc _).below hb)
  replace qab := Lib.hid ((qab.out.alloc _).below hb)
  replace qba := Lib.hid ((qba.out.alloc _).below hb)
  replace qbc := Lib.hid ((qbc.out.alloc _).below hb)
  replace qx := Lib.hid ((qx.out.alloc _).below hb)
  replace qy := Lib.hid ((qy.out.alloc _).below hb)
  replace qp := Lib.hid ((qp.out.alloc _).below hb)
  replace qq := Lib.hid ((qq.out.alloc _).below hb)
  replace qac := Lib.hid ((qac.out.alloc _).below hb)
  replace qu := Lib.hid ((qu.out.alloc _).below hb)
  replace qv := Lib.hid ((qv.out.alloc _).below hb)
  have qd := Lib.hid ((B3.new w15 (decide (d.num < 0)) (T (some d.num.natAbs)) (T (some d.den))).below hb)
  replace hB := Lib.hid (hBp.out.trans (hb.mono hBp.out.size))
  clear hb hBp
  obtain ⟨a1, a2, a3, a4, a5, a6⟩ := qa.out.facts
  have a7 := qa.out.lt
  obtain ⟨b1, b2, b3, b4, b5, b6⟩ := qb.out.facts
  have b7 := qb.out.lt
  go_wp2_with fail
  have hBp : Hid (Below w.heap.size w (w16.alloc (.cells #[.bool (decide (a.num < 0)), .string (T (some a.num.natAbs)), .string (T (some a.den))] 23))) := hB.out.alloc hB.out.size _
  refine (kc13.out _ (hE.out.below hBp.out).1).mono ?_
  rintro e w17 ⟨rfl, hb⟩
  clear a1 a2 a3 a4 a5 a6 a7 b1 b2 b3 b4 b5 b6 b7
  replace qa := Lib.hid ((qa.out.alloc _).below hb)
  replace qb := Lib.hid ((qb.out.alloc _).below hb)
  replace qc := Lib.hid ((qc.out.alloc _).below hb)
  replace qab := Lib.hid ((qab.out.alloc _).below hb)
  replace qba := Lib.hid ((qba.out.alloc _).below hb)
  replace qbc := Lib.hid ((qbc.out.alloc _).below hb)
  replace qx := Lib.hid ((qx.out.alloc _).below hb)
  replace qy := Lib.hid ((qy.out.alloc _).below hb)
  replace qp := Lib.hid ((qp.out.alloc _).below hb)
  replace qq := Lib.hid ((qq.out.alloc _).below hb)
  replace qac := Lib.hid ((qac.out.alloc _).below hb)
  replace qu := Lib.hid ((qu.out.alloc _).below hb)
  replace qv := Lib.hid ((qv.out.alloc _).below hb)
  replace qd := Lib.hid ((qd.out.alloc _).below hb)
  have qback := Lib.hid ((B3.new w16 (decide (a.num < 0)) (T (some a.num.natAbs)) (T (some a.den))).below hb)
  replace hB := Lib.hid (hBp.out.trans (hb.mono hBp.out.size))
  clear hb hBp
  obtain ⟨a1, a2, a3, a4, a5, a6⟩ := qa.out.facts
  have a7 := qa.out.lt
  obtain ⟨b1, b2, b3, b4, b5, b6⟩ := qb.out.facts
  have b7 := qb.out.lt
  obtain ⟨back1, back2, back3, back4, back5, back6⟩ := qback.out.facts
  have back7 := qback.out.lt
  go_wp2_with fail
  have hBp : Hid (Below w.heap.size w (w17.alloc (.cells #[.bool (decide (z.num < 0)), .string (T (some z.num.natAbs)), .string (T (some z.den))] 23))) := hB.out.alloc hB.out.size _
  refine (kc14.out _ (hE.out.below hBp.out).1).mono ?_
  rintro e w18 ⟨rfl, hb⟩
  clear a1 a2 a3 a4 a5 a6 a7 b1 b2 b3 b4 b5 b6 b7 back1 back2 back3 back4 back5 back6 back7
  replace qa := Lib.hid ((qa.out.alloc _).below hb)
  replace qb := Lib.hid ((qb.out.alloc _).below hb)
  replace qc := Lib.hid ((qc.out.alloc _).below hb)
  replace qab := Lib.hid ((qab.out.alloc _).below hb)
  replace qba := Lib.hid ((qba.out.alloc _).below hb)
  replace qbc := Lib.hid ((qbc.out.alloc _).below hb)
  replace qx := Lib.hid ((qx.out.alloc _).below hb)
  replace qy := Lib.hid ((qy.out.alloc _).below hb)
  replace qp := Lib.hid ((qp.out.alloc _).below hb)
  replace qq := Lib.hid ((qq.out.alloc _).below hb)
  replace qac := Lib.hid ((qac.out.alloc _).below hb)
  replace qu := Lib.hid ((qu.out.alloc _).below hb)
  replace qv := Lib.hid ((qv.out.alloc _).below hb)
  replace qd := Lib.hid ((qd.out.alloc _).below hb)
  replace qback := Lib.hid ((qback.out.alloc _).below hb)
  have qz := Lib.hid ((B3.new w17 (decide (z.num < 0)) (T (some z.num.natAbs)) (T (some z.den))).below hb)
  replace hB := Lib.hid (hBp.out.trans (hb.mono hBp.out.size))
  clear hb hBp
  obtain ⟨a1, a2, a3, a4, a5, a6⟩ := qa.out.facts
  have a7 := qa.out.lt
  obtain ⟨ab1, ab2, ab3, ab4, ab5, ab6⟩ := qab.out.facts
  have ab7 := qab.out.lt
  obtain ⟨ba1, ba2, ba3, ba4, ba5, ba6⟩ := qba.out.facts
  have ba7 := qba.out.lt
  obtain ⟨x1, x2, x3, x4, x5, x6⟩ := qx.out.facts
  have x7 := qx.out.lt
  obtain ⟨y1, y2, y3, y4, y5, y6⟩ := qy.out.facts
  have y7 := qy.out.lt
  obtain ⟨p1, p2, p3, p4, p5, p6⟩ := qp.out.facts
  have p7 := qp.out.lt
  obtain ⟨q1, q2, q3, q4, q5, q6⟩ := qq.out.facts
  have q7 := qq.out.lt
  obtain ⟨u1, u2, u3, u4, u5, u6⟩ := qu.out.facts
  have u7 := qu.out.lt
  obtain ⟨v1, v2, v3, v4, v5, v6⟩ := qv.out.facts
  have v7 := qv.out.lt
  go_wp2
  go_ret
  exact ⟨rfl, hB.out.alloc hB.out.size _⟩

set_option maxRecDepth 100000 in
set_option maxHeartbeats 4000000 in
theorem field_zr_good (a b c : Rat) (Oa : OkQ a) (Ob : OkQ b) (Oc : OkQ c) (Da : Dg 40 a) (Db : Dg 40 b) (Dc : Dg 40 c) (hb0 : b = 0) (w : World) (hE : REnv w) (hs : shortB 40 [((T (some a.num.natAbs)), (T (some a.den))), ((T (some b.num.natAbs)), (T (some b.den))), ((T (some c.num.natAbs)), (T (some c.den)))] = true) :
    Calls Tryz.prog 5 #[qv a, qv b, qv c] w fun e w' => e = .returned (.bool true) ∧ Below w.heap.size w w' := by
  have Va := Lib.hid (valid_qv Oa)
  have za := size_of_valid Va.out
  have Vb := Lib.hid (valid_qv Ob)
  have zb := size_of_valid Vb.out
  have Vc := Lib.hid (valid_qv Oc)
  have zc := size_of_valid Vc.out
  replace hE := Lib.hid hE
  replace hs := Lib.hid hs
  have zb0 : ((T (some b.num.natAbs)).toList == [48]) = true := by rw [hb0]; exact T_is_zero 0
  have zb1 : ((T (some b.den)).toList == [49]) = true := by rw [hb0]; exact T_is_one 1
  have zb2 : decide (b.num < 0) = false := by rw [hb0]; rfl
  obtain ⟨ab, hab⟩ : ∃ r, r = a + b := ⟨_, rfl⟩
  have Dab : Dg 81 ab := by rw [hab]; exact Da.add Db
  obtain ⟨bc, hbc⟩ : ∃ r, r = b + c := ⟨_, rfl⟩
  have Dbc : Dg 81 bc := by rw [hbc]; exact Db.add Dc
  obtain ⟨x, hx⟩ : ∃ r, r = ab + c := ⟨_, rfl⟩
  have Dx : Dg 122 x := by rw [hx]; exact Dab.add Dc
  obtain ⟨p, hp⟩ : ∃ r, r = a * b := ⟨_, rfl⟩
  have Dp : Dg 80 p := by rw [hp]; exact Da.mul Db
  obtain ⟨ac, hac⟩ : ∃ r, r = a * c := ⟨_, rfl⟩
  have Dac : Dg 80 ac := by rw [hac]; exact Da.mul Dc
  obtain ⟨u, hu⟩ : ∃ r, r = a * bc := ⟨_, rfl⟩
  have Du : Dg 121 u := by rw [hu]; exact Da.mul Dbc
  obtain ⟨d, hd⟩ : ∃ r, r = a - b := ⟨_, rfl⟩
  have Dd : Dg 81 d := by rw [hd]; exact Da.sub Db
  have kc1 := fun W (h : Env W) => Add_short a b (Da.short (by omega)) (Db.short (by omega)) W h
  rw [← hab] at kc1
  simp only [qv] at kc1
  replace kc1 := Lib.hid kc1
  have kc2 := fun W (h : Env W) => Add_short b a (Db.short (by omega)) (Da.short (by omega)) W h
  rw [Rat.add_comm b a, ← hab] at kc2
  simp only [qv] at kc2
  replace kc2 := Lib.hid kc2
  have kc3 := fun W (h : Env W) => Add_short b c (Db.short (by omega)) (Dc.short (by omega)) W h
  rw [← hbc] at kc3
  simp only [qv] at kc3
  replace kc3 := Lib.hid kc3
  have kc4 := fun W (h : Env W) => Add_short ab c (Dab.short (by omega)) (Dc.short (by omega)) W h
  rw [← hx] at kc4
  simp only [qv] at kc4
  replace kc4 := Lib.hid kc4
  have kc5 := fun W (h : Env W) => Add_short a bc (Da.short (by omega)) (Dbc.short (by omega)) W h
  rw [show a + bc = x by rw [hx, hab, hbc, Rat.add_assoc]] at kc5
  simp only [qv] at kc5
  replace kc5 := Lib.hid kc5
  have kc6 := fun W (h : Env W) => Mul_short a b (Da.short (by omega)) (Db.short (by omega)) W h
  rw [← hp] at kc6
  simp only [qv] at kc6
  replace kc6 := Lib.hid kc6
  have kc7 := fun W (h : Env W) => Mul_short b a (Db.short (by omega)) (Da.short (by omega)) W h
  rw [Rat.mul_comm b a, ← hp] at kc7
  simp only [qv] at kc7
  replace kc7 := Lib.hid kc7
  have kc8 := fun W (h : Env W) => Mul_short a c (Da.short (by omega)) (Dc.short (by omega)) W h
  rw [← hac] at kc8
  simp only [qv] at kc8
  replace kc8 := Lib.hid kc8
  have kc9 := fun W (h : Env W) => Mul_short a bc (Da.short (by omega)) (Dbc.short (by omega)) W h
  rw [← hu] at kc9
  simp only [qv] at kc9
  replace kc9 := Lib.hid kc9
  have kc10 := fun W (h : Env W) => Add_short p ac (Dp.short (by omega)) (Dac.short (by omega)) W h
  rw [show p + ac = u by rw [hu, hp, hac, hbc, Rat.mul_add]] at kc10
  simp only [qv] at kc10
  replace kc10 := Lib.hid kc10
  have kc11 := fun W (h : Env W) => Sub_short a b (Da.short (by omega)) (Db.short (by omega)) W h
  rw [← hd] at kc11
  simp only [qv] at kc11
  replace kc11 := Lib.hid kc11
  have kc12 := fun W (h : Env W) => Add_short d b (Dd.short (by omega)) (Db.short (by omega)) W h
  rw [show d + b = a by rw [hd, Rat.sub_add_cancel]] at kc12
  simp only [qv] at kc12
  replace kc12 := Lib.hid kc12
  have kc13 := fun W (h : Env W) => Div_zero a Oa W h
  rw [← hb0] at kc13
  simp only [qv, zv] at kc13
  replace kc13 := Lib.hid kc13
  clear hab hbc hx hp hac hu hd Dab Dbc Dx Dp Dac Du Dd
  replace hb0 := Lib.hid hb0
  replace zb2 := Lib.hid zb2
  clear Oa Ob Oc Da Db Dc
  simp only [qv]
  go_enter Tryz.func5, Tryz.ntmps5
  go_wp2_with fail
  refine (rhead_any _ (hE.out.below (triW_below w (decide (a.num < 0)) (decide (b.num < 0)) (decide (c.num < 0)) (T (some a.num.natAbs)) (T (some a.den)) (T (some b.num.natAbs)) (T (some b.den)) (T (some c.num.natAbs)) (T (some c.den))))).mono ?_
  rintro e w0 ⟨rfl, hb⟩
  obtain ⟨qa, qb, qc⟩ := triW_boxes w (decide (a.num < 0)) (decide (b.num < 0)) (decide (c.num < 0)) (T (some a.num.natAbs)) (T (some a.den)) (T (some b.num.natAbs)) (T (some b.den)) (T (some c.num.natAbs)) (T (some c.den))
  replace qa := Lib.hid (qa.below hb)
  replace qb := Lib.hid (qb.below hb)
  replace qc := Lib.hid (qc.below hb)
  have hB := Lib.hid ((triW_below w (decide (a.num < 0)) (decide (b.num < 0)) (decide (c.num < 0)) (T (some a.num.natAbs)) (T (some a.den)) (T (some b.num.natAbs)) (T (some b.den)) (T (some c.num.natAbs)) (T (some c.den))).trans (hb.mono (triW_below w (decide (a.num < 0)) (decide (b.num < 0)) (decide (c.num < 0)) (T (some a.num.natAbs)) (T (some a.den)) (T (some b.num.natAbs)) (T (some b.den)) (T (some c.num.natAbs)) (T (some c.den))).size))
  clear hb
  obtain ⟨a1, a2, a3, a4, a5, a6⟩ := qa.out.facts
  have a7 := qa.out.lt
  obtain ⟨b1, b2, b3, b4, b5, b6⟩ := qb.out.facts
  have b7 := qb.out.lt
  obtain ⟨c1, c2, c3, c4, c5, c6⟩ := qc.out.facts
  have c7 := qc.out.lt
  go_wp2_with fail
  refine (short_any 40 [((T (some a.num.natAbs)), (T (some a.den))), ((T (some b.num.natAbs)), (T (some b.den))), ((T (some c.num.natAbs)), (T (some c.den)))] w0.heap.size 3 _ (by simp) (raws3 w0 (decide (a.num < 0)) (decide (b.num < 0)) (decide (c.num < 0)) (T (some a.num.natAbs)) (T (some a.den)) (T (some b.num.natAbs)) (T (some b.den)) (T (some c.num.natAbs)) (T (some c.den)))).mono ?_
  rintro e w1 ⟨rfl, rfl⟩
  rw [hs.out]
  obtain ⟨w1, hw1⟩ : ∃ W, W = w0.alloc (.cells #[.bool (decide (a.num < 0)), .string (T (some a.num.natAbs)), .string (T (some a.den)), .bool (decide (b.num < 0)), .string (T (some b.num.natAbs)), .string (T (some b.den)), .bool (decide (c.num < 0)), .string (T (some c.num.natAbs)), .string (T (some c.den))] 23) := ⟨_, rfl⟩
  rw [← hw1]
  clear a1 a2 a3 a4 a5 a6 a7 b1 b2 b3 b4 b5 b6 b7 c1 c2 c3 c4 c5 c6 c7
  replace qa : Hid (B3 w1 w.heap.size (decide (a.num < 0)) (T (some a.num.natAbs)) (T (some a.den))) := by rw [hw1]; exact qa.out.alloc _
  replace qb : Hid (B3 w1 (w.heap.size + 1) (decide (b.num < 0)) (T (some b.num.natAbs)) (T (some b.den))) := by rw [hw1]; exact qb.out.alloc _
  replace qc : Hid (B3 w1 (w.heap.size + 1 + 1) (decide (c.num < 0)) (T (some c.num.natAbs)) (T (some c.den))) := by rw [hw1]; exact qc.out.alloc _
  replace hB : Hid (Below w.heap.size w w1) := by rw [hw1]; exact hB.out.alloc hB.out.size _
  clear hw1
  obtain ⟨a1, a2, a3, a4, a5, a6⟩ := qa.out.facts
  have a7 := qa.out.lt
  obtain ⟨b1, b2, b3, b4, b5, b6⟩ := qb.out.facts
  have b7 := qb.out.lt
  obtain ⟨c1, c2, c3, c4, c5, c6⟩ := qc.out.facts
  have c7 := qc.out.lt
  go_wp2_with fail
  have hBp := hB
  refine (Valid_any (decide (a.num < 0)) (T (some a.num.natAbs)) (T (some a.den)) _ (hE.out.below hBp.out).1 (by omega) (by omega)).mono ?_
  rintro e w2 ⟨rfl, hb⟩
  rw [Va.out]
  clear a1 a2 a3 a4 a5 a6 a7 b1 b2 b3 b4 b5 b6 b7 c1 c2 c3 c4 c5 c6 c7
  replace qa := Lib.hid (qa.out.below hb)
  replace qb := Lib.hid (qb.out.below hb)
  replace qc := Lib.hid (qc.out.below hb)
  replace hB := Lib.hid (hBp.out.trans (hb.mono hBp.out.size))
  clear hb hBp
  obtain ⟨a1, a2, a3, a4, a5, a6⟩ := qa.out.facts
  have a7 := qa.out.lt
  obtain ⟨b1, b2, b3, b4, b5, b6⟩ := qb.out.facts
  have b7 := qb.out.lt
  obtain ⟨c1, c2, c3, c4, c5, c6⟩ := qc.out.facts
  have c7 := qc.out.lt
  go_wp2_with fail
  have hBp := hB
  refine (Valid_any (decide (b.num < 0)) (T (some b.num.natAbs)) (T (some b.den)) _ (hE.out.below hBp.out).1 (by omega) (by omega)).mono ?_
  rintro e w3 ⟨rfl, hb⟩
  rw [Vb.out]
  clear a1 a2 a3 a4 a5 a6 a7 b1 b2 b3 b4 b5 b6 b7 c1 c2 c3 c4 c5 c6 c7
  replace qa := Lib.hid (qa.out.below hb)
  replace qb := Lib.hid (qb.out.below hb)
  replace qc := Lib.hid (qc.out.below hb)
  replace hB := Lib.hid (hBp.out.trans (hb.mono hBp.out.size))
  clear hb hBp
  obtain ⟨a1, a2, a3, a4, a5, a6⟩ := qa.out.facts
  have a7 := qa.out.lt
  obtain ⟨b1, b2, b3, b4, b5, b6⟩ := qb.out.facts
  have b7 := qb.out.lt
  obtain ⟨c1, c2, c3, c4, c5, c6⟩ := qc.out.facts
  have c7 := qc.out.lt
  go_wp2_with fail
  have hBp := hB
  refine (Valid_any (decide (c.num < 0)) (T (some c.num.natAbs)) (T (some c.den)) _ (hE.out.below hBp.out).1 (by omega) (by omega)).mono ?_
  rintro e w4 ⟨rfl, hb⟩
  rw [Vc.out]
  clear a1 a2 a3 a4 a5 a6 a7 b1 b2 b3 b4 b5 b6 b7 c1 c2 c3 c4 c5 c6 c7
  replace qa := Lib.hid (qa.out.below hb)
  replace qb := Lib.hid (qb.out.below hb)
  replace qc := Lib.hid (qc.out.below hb)
  replace hB := Lib.hid (hBp.out.trans (hb.mono hBp.out.size))
  clear hb hBp
  obtain ⟨a1, a2, a3, a4, a5, a6⟩ := qa.out.facts
  have a7 := qa.out.lt
  obtain ⟨b1, b2, b3, b4, b5, b6⟩ := qb.out.facts
  have b7 := qb.out.lt
  obtain ⟨c1, c2, c3, c4, c5, c6⟩ := qc.out.facts
  have c7 := qc.out.lt
  go_wp2_with fail
  have hBp := hB
  refine (kc1.out _ (hE.out.below hBp.out).1).mono ?_
  rintro e w5 ⟨rfl, hb⟩
  clear a1 a2 a3 a4 a5 a6 a7 b1 b2 b3 b4 b5 b6 b7 c1 c2 c3 c4 c5 c6 c7
  replace qa := Lib.hid (qa.out.below hb)
  replace qb := Lib.hid (qb.out.below hb)
  replace qc := Lib.hid (qc.out.below hb)
  replace hB := Lib.hid (hBp.out.trans (hb.mono hBp.out.size))
  clear hb hBp
  obtain ⟨a1, a2, a3, a4, a5, a6⟩ := qa.out.facts
  have a7 := qa.out.lt
  obtain ⟨b1, b2, b3, b4, b5, b6⟩ := qb.out.facts
  have b7 := qb.out.lt
  go_wp2_with fail
  have hBp : Hid (Below w.heap.size w (w5.alloc (.cells #[.bool (decide (ab.num < 0)), .string (T (some ab.num.natAbs)), .string (T (some ab.den))] 23))) := hB.out.alloc hB.out.size _
  refine (kc2.out _ (hE.out.below hBp.out).1).mono ?_
  rintro e w6 ⟨rfl, hb⟩
  clear a1 a2 a3 a4 a5 a6 a7 b1 b2 b3 b4 b5 b6 b7
  replace qa := Lib.hid ((qa.out.alloc _).below hb)
  replace qb := Lib.hid ((qb.out.alloc _).below hb)
  replace qc := Lib.hid ((qc.out.alloc _).below hb)
  have qab := Lib.hid ((B3.new w5 (decide (ab.num < 0)) (T (some ab.num.natAbs)) (T (some ab.den))).below hb)
  replace hB := Lib.hid (hBp.out.trans (hb.mono hBp.out.size))
  clear hb hBp
  obtain ⟨b1, b2, b3, b4, b5, b6⟩ := qb.out.facts
  have b7 := qb.out.lt
  obtain ⟨c1, c2, c3, c4, c5, c6⟩ := qc.out.facts
  have c7 := qc.out.lt
  go_wp2_with fail
  have hBp : Hid (Below w.heap.size w (w6.alloc (.cells #[.bool (decide (ab.num < 0)), .string (T (some ab.num.natAbs)), .string (T (some ab.den))] 23))) := hB.out.alloc hB.out.size _
  refine (kc3.out _ (hE.out.below hBp.out).1).mono ?_
  rintro e w7 ⟨rfl, hb⟩
  clear b1 b2 b3 b4 b5 b6 b7 c1 c2 c3 c4 c5 c6 c7
  replace qa := Lib.hid ((qa.out.alloc _).below hb)
  replace qb := Lib.hid ((qb.out.alloc _).below hb)
  replace qc := Lib.hid ((qc.out.alloc _).below hb)
  replace qab := Lib.hid ((qab.out.alloc _).below hb)
  have qba := Lib.hid ((B3.new w6 (decide (ab.num < 0)) (T (some ab.num.natAbs)) (T (some ab.den))).below hb)
  replace hB := Lib.hid (hBp.out.trans (hb.mono hBp.out.size))
  clear hb hBp
  obtain ⟨ab1, ab2, ab3, ab4, ab5, ab6⟩ := qab.out.facts
  have ab7 := qab.out.lt
  obtain ⟨c1, c2, c3, c4, c5, c6⟩ := qc.out.facts
  have c7 := qc.out.lt
  go_wp2_with fail
  have hBp : Hid (Below w.heap.size w (w7.alloc (.cells #[.bool (decide (bc.num < 0)), .string (T (some bc.num.natAbs)), .string (T (some bc.den))] 23))) := hB.out.alloc hB.out.size _
  refine (kc4.out _ (hE.out.below hBp.out).1).mono ?_
  rintro e w8 ⟨rfl, hb⟩
  clear ab1 ab2 ab3 ab4 ab5 ab6 ab7 c1 c2 c3 c4 c5 c6 c7
  replace qa := Lib.hid ((qa.out.alloc _).below hb)
  replace qb := Lib.hid ((qb.out.alloc _).below hb)
  replace qc := Lib.hid ((qc.out.alloc _).below hb)
  replace qab := Lib.hid ((qab.out.alloc _).below hb)
  replace qba := Lib.hid ((qba.out.alloc _).below hb)
  have qbc := Lib.hid ((B3.new w7 (decide (bc.num < 0)) (T (some bc.num.natAbs)) (T (some bc.den))).below hb)
  replace hB := Lib.hid (hBp.out.trans (hb.mono hBp.out.size))
  clear hb hBp
  obtain ⟨a1, a2, a3, a4, a5, a6⟩ := qa.out.facts
  have a7 := qa.out.lt
  obtain ⟨bc1, bc2, bc3, bc4, bc5, bc6⟩ := qbc.out.facts
  have bc7 := qbc.out.lt
  go_wp2_with fail
  have hBp : Hid (Below w.heap.size w (w8.alloc (.cells #[.bool (decide (x.num < 0)), .string (T (some x.num.natAbs)), .string (T (some x.den))] 23))) := hB.out.alloc hB.out.size _
  refine (kc5.out _ (hE.out.below hBp.out).1).mono ?_
  rintro e w9 ⟨rfl, hb⟩
  clear a1 a2 a3 a4 a5 a6 a7 bc1 bc2 bc3 bc4 bc5 bc6 bc7
  replace qa := Lib.hid ((qa.out.alloc _).below hb)
  replace qb := Lib.hid ((qb.out.alloc _).below hb)
  replace qc := Lib.hid ((qc.out.alloc _).below hb)
  replace qab := Lib.hid ((qab.out.alloc _).below hb)
  replace qba := Lib.hid ((qba.out.alloc _).below hb)
  replace qbc := Lib.hid ((qbc.out.alloc _).below hb)
  have qx := Lib.hid ((B3.new w8 (decide (x.num < 0)) (T (some x.num.natAbs)) (T (some x.den))).below hb)
  replace hB := Lib.hid (hBp.out.trans (hb.mono hBp.out.size))
  clear hb hBp
  obtain ⟨a1, a2, a3, a4, a5, a6⟩ := qa.out.facts
  have a7 := qa.out.lt
  obtain ⟨b1, b2, b3, b4, b5, b6⟩ := qb.out.facts
  have b7 := qb.out.lt
  go_wp2_with fail
  have hBp : Hid (Below w.heap.size w (w9.alloc (.cells #[.bool (decide (x.num < 0)), .string (T (some x.num.natAbs)), .string (T (some x.den))] 23))) := hB.out.alloc hB.out.size _
  refine (kc6.out _ (hE.out.below hBp.out).1).mono ?_
  rintro e w10 ⟨rfl, hb⟩
  clear a1 a2 a3 a4 a5 a6 a7 b1 b2 b3 b4 b5 b6 b7
  replace qa := Lib.hid ((qa.out.alloc _).below hb)
  replace qb := Lib.hid ((qb.out.alloc _).below hb)
  replace qc := Lib.hid ((qc.out.alloc _).below hb)
  replace qab := Lib.hid ((qab.out.alloc _).below hb)
  replace qba := Lib.hid ((qba.out.alloc _).below hb)
  replace qbc := Lib.hid ((qbc.out.alloc _).below hb)
  replace qx := Lib.hid ((qx.out.alloc _).below hb)
  have qy := Lib.hid ((B3.new w9 (decide (x.num < 0)) (T (some x.num.natAbs)) (T (some x.den))).below hb)
  replace hB := Lib.hid (hBp.out.trans (hb.mono hBp.out.size))
  clear hb hBp
  obtain ⟨a1, a2, a3, a4, a5, a6⟩ := qa.out.facts
  have a7 := qa.out.lt
  obtain ⟨b1, b2, b3, b4, b5, b6⟩ := qb.out.facts
  have b7 := qb.out.lt
  go_wp2_with fail
  have hBp : Hid (Below w.heap.size w (w10.alloc (.cells #[.bool (decide (p.num < 0)), .string (T (some p.num.natAbs)), .string (T (some p.den))] 23))) := hB.out.alloc hB.out.size _
  refine (kc7.out _ (hE.out.below hBp.out).1).mono ?_
  rintro e w11 ⟨rfl, hb⟩
  clear a1 a2 a3 a4 a5 a6 a7 b1 b2 b3 b4 b5 b6 b7
  replace qa := Lib.hid ((qa.out.alloc _).below hb)
  replace qb := Lib.hid ((qb.out.alloc _).below hb)
  replace qc := Lib.hid ((qc.out.alloc _).below hb)
  replace qab := Lib.hid ((qab.out.alloc _).below hb)
  replace qba := Lib.hid ((qba.out.alloc _).below hb)
  replace qbc := Lib.hid ((qbc.out.alloc _).below hb)
  replace qx := Lib.hid ((qx.out.alloc _).below hb)
  replace qy := Lib.hid ((qy.out.alloc _).below hb)
  have qp := Lib.hid ((B3.new w10 (decide (p.num < 0)) (T (some p.num.natAbs)) (T (some p.den))).below hb)
  replace hB := Lib.hid (hBp.out.trans (hb.mono hBp.out.size))
  clear hb hBp
  obtain ⟨a1, a2, a3, a4, a5, a6⟩ := qa.out.facts
  have a7 := qa.out.lt
  obtain ⟨c1, c2, c3, c4, c5, c6⟩ := qc.out.facts
  have c7 := qc.out.lt
  go_wp2_with fail
  have hBp : Hid (Below w.heap.size w (w11.alloc (.cells #[.bool (decide (p.num < 0)), .string (T (some p.num.natAbs)), .string (T (some p.den))] 23))) := hB.out.alloc hB.out.size _
  refine (kc8.out _ (hE.out.below hBp.out).1).mono ?_
  rintro e w12 ⟨rfl, hb⟩
  clear a1 a2 a3 a4 a5 a6 a7 c1 c2 c3 c4 c5 c6 c7
  replace qa := Lib.hid ((qa.out.alloc _).below hb)
  replace qb := Lib.hid ((qb.out.alloc _).below hb)
  replace qc := Lib.hid ((qc.out.alloc _).below hb)
  replace qab := Lib.hid ((qab.out.alloc _).below hb)
  replace qba := Lib.hid ((qba.out.alloc _).below hb)
  replace qbc := Lib.hid ((qbc.out.alloc _).below hb)
  replace qx := Lib.hid ((qx.out.alloc _).below hb)
  replace qy := Lib.hid ((qy.out.alloc _).below hb)
  replace qp := Lib.hid ((qp.out.alloc _).below hb)
  have qq := Lib.hid ((B3.new w11 (decide (p.num < 0)) (T (some p.num.natAbs)) (T (some p.den))).below hb)
  replace hB := Lib.hid (hBp.out.trans (hb.mono hBp.out.size))
  clear hb hBp
  obtain ⟨a1, a2, a3, a4, a5, a6⟩ := qa.out.facts
  have a7 := qa.out.lt
  obtain ⟨bc1, bc2, bc3, bc4, bc5, bc6⟩ := qbc.out.facts
  have bc7 := qbc.out.lt
  go_wp2_with fail
  have hBp : Hid (Below w.heap.size w (w12.alloc (.cells #[.bool (decide (ac.num < 0)), .string (T (some ac.num.natAbs)), .string (T (some ac.den))] 23))) := hB.out.alloc hB.out.size _
  refine (kc9.out _ (hE.out.below hBp.out).1).mono ?_
  rintro e w13 ⟨rfl, hb⟩
  clear a1 a2 a3 a4 a5 a6 a7 bc1 bc2 bc3 bc4 bc5 bc6 bc7
  replace qa := Lib.hid ((qa.out.alloc _).below hb)
  replace qb := Lib.hid ((qb.out.alloc _).below hb)
  replace qc := Lib.hid ((qc.out.alloc _).below hb)
  replace qab := Lib.hid ((qab.out.alloc _).below hb)
  replace qba := Lib.hid ((qba.out.alloc _).below hb)
  replace qbc := Lib.hid ((qbc.out.alloc _).below hb)
  replace qx := Lib.hid ((qx.out.alloc _).below hb)
  replace qy := Lib.hid ((qy.out.alloc _).below hb)
  replace qp := Lib.hid ((qp.out.alloc _).below hb)
  replace qq := Lib.hid ((qq.out.alloc _).below hb)
  have qac := Lib.hid ((B3.new w12 (decide (ac.num < 0)) (T (some ac.num.natAbs)) (T (some ac.den))).below hb)
  replace hB := Lib.hid (hBp.out.trans (hb.mono hBp.out.size))
  clear hb hBp
  obtain ⟨p1, p2, p3, p4, p5, p6⟩ := qp.out.facts
  have p7 := qp.out.lt
  obtain ⟨ac1, ac2, ac3, ac4, ac5, ac6⟩ := qac.out.facts
  have ac7 := qac.out.lt
  go_wp2_with fail
  have hBp : Hid (Below w.heap.size w (w13.alloc (.cells #[.bool (decide (u.num < 0)), .string (T (some u.num.natAbs)), .string (T (some u.den))] 23))) := hB.out.alloc hB.out.size _
  refine (kc10.out _ (hE.out.below hBp.out).1).mono ?_
  rintro e w14 ⟨rfl, hb⟩
  clear p1 p2 p3 p4 p5 p6 p7 ac1 ac2 ac3 ac4 ac5 ac6 ac7
  replace qa := Lib.hid ((qa.out.alloc _).below hb)
  replace qb := Lib.hid ((qb.out.alloc _).below hb)
  replace qc := Lib.hid ((qc.out.alloc _).below hb)
  replace qab := Lib.hid ((qab.out.alloc _).below hb)
  replace qba := Lib.hid ((qba.out.alloc _).below hb)
  replace qbc := Lib.hid ((qbc.out.alloc _).below hb)
  replace qx := Lib.hid ((qx.out.alloc _).below hb)
  replace qy := Lib.hid ((qy.out.alloc _).below hb)
  replace qp := Lib.hid ((qp.out.alloc _).below hb)
  replace qq := Lib.hid ((qq.out.alloc _).below hb)
  replace qac := Lib.hid ((qac.out.alloc _).below hb)
  have qu := Lib.hid ((B3.new w13 (decide (u.num < 0)) (T (some u.num.natAbs)) (T (some u.den))).below hb)
  replace hB := Lib.hid (hBp.out.trans (hb.mono hBp.out.size))
  clear hb hBp
  obtain ⟨a1, a2, a3, a4, a5, a6⟩ := qa.out.facts
  have a7 := qa.out.lt
  obtain ⟨b1, b2, b3, b4, b5, b6⟩ := qb.out.facts
  have b7 := qb.out.lt
  go_wp2_with fail
  have hBp : Hid (Below w.heap.size w (w14.alloc (.cells #[.bool (decide (u.num < 0)), .string (T (some u.num.natAbs)), .string (T (some u.den))] 23))) := hB.out.alloc hB.out.size _
  refine (kc11.out _ (hE.out.below hBp.out).1).mono ?_
  rintro e w15 ⟨rfl, hb⟩
  clear a1 a2 a3 a4 a5 a6 a7 b1 b2 b3 b4 b5 b6 b7
  replace qa := Lib.hid ((qa.out.alloc _).below hb)
  replace qb := Lib.hid ((qb.out.alloc _).below hb)
  replace qc := Lib.hid ((qc.out.alloc _).below hb)
  replace qab := Lib.hid ((qab.out.alloc _).below hb)
  replace qba := Lib.hid ((qba.out.alloc _).below hb)
  replace qbc := Lib.hid ((qbc.out.alloc _).below hb)
  replace qx := Lib.hid ((qx.out.alloc _).below hb)
  replace qy := Lib.hid ((qy.out.alloc _).below hb)
  replace qp := Lib.hid ((qp.out.alloc _).below hb)
  replace qq := Lib.hid ((qq.out.alloc _).below hb)
  replace qac := Lib.hid ((qac.out.alloc _).below hb)
  replace qu := Lib.hid ((qu.out.alloc _).below hb)
  have qv := Lib.hid ((B3.new w14 (decide (u.num < 0)) (T (some u.num.natAbs)) (T (some u.den))).below hb)
  replace hB := Lib.hid (hBp.out.trans (hb.mono hBp.out.size))
  clear hb hBp
  obtain ⟨b1, b2, b3, b4, b5, b6⟩ := qb.out.facts
  have b7 := qb.out.lt
  go_wp2_with fail
  have hBp : Hid (Below w.heap.size w (w15.alloc (.cells #[.bool (decide (d.num < 0)), .string (T (some d.num.natAbs)), .string (T (some d.den))] 23))) := hB.out.alloc hB.out.size _
  refine (kc12.out _ (hE.out.below hBp.out).1).mono ?_
  rintro e w16 ⟨rfl, hb⟩
  clear b1 b2 b3 b4 b5 b6 b7
  replace qa := Lib.hid ((qa.out.alloc _).below hb)
  replace qb := Lib.hid ((qb.out.alloc _).below hb)
  replace qc := Lib.hid ((qc.out.alloc _).below hb)
  replace qab := Lib.hid ((qab.out.alloc _).below hb)
  replace qba := Lib.hid ((qba.out.alloc _).below hb)
  replace qbc := Lib.hid ((qbc.out.alloc _).below hb)
  replace qx := Lib.hid ((qx.out.alloc _).below hb)
  replace qy := Lib.hid ((qy.out.alloc _).below hb)
  replace qp := Lib.hid ((qp.out.alloc _).below hb)
  replace qq := Lib.hid ((qq.out.alloc _).below hb)
  replace qac := Lib.hid ((qac.out.alloc _).below hb)
  replace qu := Lib.hid ((qu.out.alloc _).below hb)
  replace qv := Lib.hid ((qv.out.alloc _).below hb)
  have qd := Lib.hid ((B3.new w15 (decide (d.num < 0)) (T (some d.num.natAbs)) (T (some d.den))).below hb)
  replace hB := Lib.hid (hBp.out.trans (hb.mono hBp.out.size))
  clear hb hBp
  obtain ⟨a1, a2, a3, a4, a5, a6⟩ := qa.out.facts
  have a7 := qa.out.lt
  obtain ⟨b1, b2, b3, b4, b5, b6⟩ := qb.out.facts
  have b7 := qb.out.lt
  go_wp2_with fail
  have hBp : Hid (Below w.heap.size w (w16.alloc (.cells #[.bool (decide (a.num < 0)), .string (T (some a.num.natAbs)), .string (T (some a.den))] 23))) := hB.out.alloc hB.out.size _
  refine (kc13.out _ (hE.out.below hBp.out).1).mono ?_
  rintro e w17 ⟨rfl, hb⟩
  clear a1 a2 a3 a4 a5 a6 a7 b1 b2 b3 b4 b5 b6 b7
  replace qa := Lib.hid ((qa.out.alloc _).below hb)
  replace qb := Lib.hid ((qb.out.alloc _).below hb)
  replace qc := Lib.hid ((qc.out.alloc _).below hb)
  replace qab := Lib.hid ((qab.out.alloc _).below hb)
  replace qba := Lib.hid ((qba.out.alloc _).below hb)
  replace qbc := Lib.hid ((qbc.out.alloc _).below hb)
  replace qx := Lib.hid ((qx.out.alloc _).below hb)
  replace qy := Lib.hid ((qy.out.alloc _).below hb)
  replace qp := Lib.hid ((qp.out.alloc _).below hb)
  replace qq := Lib.hid ((qq.out.alloc _).below hb)
  replace qac := Lib.hid ((qac.out.alloc _).below hb)
  replace qu := Lib.hid ((qu.out.alloc _).below hb)
  replace qv := Lib.hid ((qv.out.alloc _).below hb)
  replace qd := Lib.hid ((qd.out.alloc _).below hb)
  have qback := Lib.hid ((B3.new w16 (decide (a.num < 0)) (T (some a.num.natAbs)) (T (some a.den))).below hb)
  replace hB := Lib.hid (hBp.out.trans (hb.mono hBp.out.size))
  clear hb hBp
  obtain ⟨a1, a2, a3, a4, a5, a6⟩ := qa.out.facts
  have a7 := qa.out.lt
  obtain ⟨b1, b2, b3, b4, b5, b6⟩ := qb.out.facts
  have b7 := qb.out.lt
  obtain ⟨back1, back2, back3, back4, back5, back6⟩ := qback.out.facts
  have back7 := qback.out.lt
  obtain ⟨ab1, ab2, ab3, ab4, ab5, ab6⟩ := qab.out.facts
  have ab7 := qab.out.lt
  obtain ⟨ba1, ba2, ba3, ba4, ba5, ba6⟩ := qba.out.facts
  have ba7 := qba.out.lt
  obtain ⟨x1, x2, x3, x4, x5, x6⟩ := qx.out.facts
  have x7 := qx.out.lt
  obtain ⟨y1, y2, y3, y4, y5, y6⟩ := qy.out.facts
  have y7 := qy.out.lt
  obtain ⟨p1, p2, p3, p4, p5, p6⟩ := qp.out.facts
  have p7 := qp.out.lt
  obtain ⟨q1, q2, q3, q4, q5, q6⟩ := qq.out.facts
  have q7 := qq.out.lt
  obtain ⟨u1, u2, u3, u4, u5, u6⟩ := qu.out.facts
  have u7 := qu.out.lt
  obtain ⟨v1, v2, v3, v4, v5, v6⟩ := qv.out.facts
  have v7 := qv.out.lt
  replace zb2 := zb2.out
  go_wp2
  go_ret
  exact ⟨rfl, hB.out.alloc hB.out.size _⟩

theorem field_all (a b c : Rat) (Oa : OkQ a) (Ob : OkQ b) (Oc : OkQ c) (Da : Dg 40 a) (Db : Dg 40 b) (Dc : Dg 40 c) (w : World) (hE : REnv w) (hs : shortB 40 [((T (some a.num.natAbs)), (T (some a.den))), ((T (some b.num.natAbs)), (T (some b.den))), ((T (some c.num.natAbs)), (T (some c.den)))] = true) :
    Calls Tryz.prog 5 #[qv a, qv b, qv c] w fun e w' => e = .returned (.bool true) ∧ Below w.heap.size w w' := by
  by_cases hb0 : b = 0
  · exact field_zr_good a b c Oa Ob Oc Da Db Dc hb0 w hE hs
  · exact field_nz_good a b c Oa Ob Oc Da Db Dc hb0 w hE hs

theorem field_any (g1 g2 g3 : Bool) (n1 d1 n2 d2 n3 d3 : ByteArray) (sn1 : n1.size ≤ 140737488355328) (sd1 : d1.size ≤ 140737488355328) (sn2 : n2.size ≤ 140737488355328) (sd2 : d2.size ≤ 140737488355328) (sn3 : n3.size ≤ 140737488355328) (sd3 : d3.size ≤ 140737488355328) (w : World) (hE : REnv w) :
    Calls Tryz.prog 5 #[.agg #[.bool g1, .string n1, .string d1], .agg #[.bool g2, .string n2, .string d2], .agg #[.bool g3, .string n3, .string d3]] w fun e w' => e = .returned (.bool true) ∧ Below w.heap.size w w' := by
  cases hs : shortB 40 [(n1, d1), (n2, d2), (n3, d3)] with
  | false => exact field_bad0 g1 g2 g3 n1 d1 n2 d2 n3 d3 w hE hs
  | true =>
    cases v1 : validB g1 n1 d1 with
    | false => exact field_bad1 g1 g2 g3 n1 d1 n2 d2 n3 d3 sn1 sd1 w hE hs v1
    | true =>
      cases v2 : validB g2 n2 d2 with
      | false => exact field_bad2 g1 g2 g3 n1 d1 n2 d2 n3 d3 sn1 sd1 sn2 sd2 w hE hs v1 v2
      | true =>
        cases v3 : validB g3 n3 d3 with
        | false => exact field_bad3 g1 g2 g3 n1 d1 n2 d2 n3 d3 sn1 sd1 sn2 sd2 sn3 sd3 w hE hs v1 v2 v3
        | true =>
          obtain ⟨a, Oa, rfl, rfl, rfl⟩ := of_valid v1
          obtain ⟨b, Ob, rfl, rfl, rfl⟩ := of_valid v2
          obtain ⟨c, Oc, rfl, rfl, rfl⟩ := of_valid v3
          have h := hs
          simp only [shortB, List.all_cons, List.all_nil, Bool.and_true, Bool.and_eq_true, decide_eq_true_eq] at h
          exact field_all a b c Oa Ob Oc (dg_of_size (by omega) h.1.1 h.1.2) (dg_of_size (by omega) h.2.1.1 h.2.1.2) (dg_of_size (by omega) h.2.2.1 h.2.2.2) w hE hs

end Nt
end Go.Proofs.YtjahnkeafaebdaaGreatDoor

