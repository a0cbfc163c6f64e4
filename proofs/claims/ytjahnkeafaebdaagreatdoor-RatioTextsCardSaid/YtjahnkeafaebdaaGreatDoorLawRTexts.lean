/- RatioTexts: the walk. -/
import Derived.Test.YtjahnkeafaebdaaGreatDoorRatDuo
import Derived.Test.YtjahnkeafaebdaaGreatDoorRatShow
namespace Go.Proofs.YtjahnkeafaebdaaGreatDoor
open Go.RowKit Go.Shelf
namespace Nt

set_option maxRecDepth 100000 in
set_option maxHeartbeats 4000000 in
theorem rtexts_bad0 (g1 g2 : Bool) (n1 d1 n2 d2 t : ByteArray) (hs : shortB 300 [(n1, d1), (n2, d2)] = false) (w : World) (hE : REnv w) :
    Calls Tryz.prog 8 #[.agg #[.bool g1, .string n1, .string d1], .agg #[.bool g2, .string n2, .string d2], .string t] w fun e w' => e = .returned (.bool true) ∧ Below w.heap.size w w' := by
  replace hE := Lib.hid hE
  replace hs := Lib.hid hs
  go_enter Tryz.func8, Tryz.ntmps8
  go_wp2_with fail
  refine (rhead_any _ (hE.out.below (duoW_below w g1 g2 n1 d1 n2 d2))).mono ?_
  rintro e w0 ⟨rfl, hb⟩
  obtain ⟨qa, qb⟩ := duoW_boxes w g1 g2 n1 d1 n2 d2
  replace qa := Lib.hid (qa.below hb)
  replace qb := Lib.hid (qb.below hb)
  have hB := Lib.hid ((duoW_below w g1 g2 n1 d1 n2 d2).trans (hb.mono (duoW_below w g1 g2 n1 d1 n2 d2).size))
  clear hb
  obtain ⟨a1, a2, a3, a4, a5, a6⟩ := qa.out.facts
  have a7 := qa.out.lt
  obtain ⟨b1, b2, b3, b4, b5, b6⟩ := qb.out.facts
  have b7 := qb.out.lt
  go_wp2_with fail
  refine (short_any 300 [(n1, d1), (n2, d2)] w0.heap.size 2 _ (by simp) (raws2 w0 g1 g2 n1 d1 n2 d2)).mono ?_
  rintro e wx ⟨rfl, rfl⟩
  rw [hs.out]
  clear a1 a2 a3 a4 a5 a6 a7 b1 b2 b3 b4 b5 b6 b7
  obtain ⟨w1, hw1⟩ : ∃ W, W = w0.alloc (.cells #[.bool g1, .string n1, .string d1, .bool g2, .string n2, .string d2] 23) := ⟨_, rfl⟩
  rw [← hw1]
  replace qa := qa.out
  replace qb := qb.out
  replace qa := qa.alloc (.cells #[.bool g1, .string n1, .string d1, .bool g2, .string n2, .string d2] 23)
  replace qb := qb.alloc (.cells #[.bool g1, .string n1, .string d1, .bool g2, .string n2, .string d2] 23)
  replace hB := Lib.hid (hB.out.alloc hB.out.size (.cells #[.bool g1, .string n1, .string d1, .bool g2, .string n2, .string d2] 23))
  rw [← hw1] at hB qa qb
  replace qa := Lib.hid qa
  replace qb := Lib.hid qb
  clear hw1
  go_wp2
  go_ret
  exact ⟨rfl, hB.out⟩

set_option maxRecDepth 100000 in
set_option maxHeartbeats 4000000 in
theorem rtexts_bad1 (g1 g2 : Bool) (n1 d1 n2 d2 t : ByteArray) (hs : shortB 300 [(n1, d1), (n2, d2)] = true) (ht : 620 < t.size) (w : World) (hE : REnv w) :
    Calls Tryz.prog 8 #[.agg #[.bool g1, .string n1, .string d1], .agg #[.bool g2, .string n2, .string d2], .string t] w fun e w' => e = .returned (.bool true) ∧ Below w.heap.size w w' := by
  replace hE := Lib.hid hE
  replace hs := Lib.hid hs
  go_enter Tryz.func8, Tryz.ntmps8
  go_wp2_with fail
  refine (rhead_any _ (hE.out.below (duoW_below w g1 g2 n1 d1 n2 d2))).mono ?_
  rintro e w0 ⟨rfl, hb⟩
  obtain ⟨qa, qb⟩ := duoW_boxes w g1 g2 n1 d1 n2 d2
  replace qa := Lib.hid (qa.below hb)
  replace qb := Lib.hid (qb.below hb)
  have hB := Lib.hid ((duoW_below w g1 g2 n1 d1 n2 d2).trans (hb.mono (duoW_below w g1 g2 n1 d1 n2 d2).size))
  clear hb
  obtain ⟨a1, a2, a3, a4, a5, a6⟩ := qa.out.facts
  have a7 := qa.out.lt
  obtain ⟨b1, b2, b3, b4, b5, b6⟩ := qb.out.facts
  have b7 := qb.out.lt
  go_wp2_with fail
  refine (short_any 300 [(n1, d1), (n2, d2)] w0.heap.size 2 _ (by simp) (raws2 w0 g1 g2 n1 d1 n2 d2)).mono ?_
  rintro e wx ⟨rfl, rfl⟩
  rw [hs.out]
  clear a1 a2 a3 a4 a5 a6 a7 b1 b2 b3 b4 b5 b6 b7
  obtain ⟨w1, hw1⟩ : ∃ W, W = w0.alloc (.cells #[.bool g1, .string n1, .string d1, .bool g2, .string n2, .string d2] 23) := ⟨_, rfl⟩
  rw [← hw1]
  replace qa := qa.out
  replace qb := qb.out
  replace qa := qa.alloc (.cells #[.bool g1, .string n1, .string d1, .bool g2, .string n2, .string d2] 23)
  replace qb := qb.alloc (.cells #[.bool g1, .string n1, .string d1, .bool g2, .string n2, .string d2] 23)
  replace hB := Lib.hid (hB.out.alloc hB.out.size (.cells #[.bool g1, .string n1, .string d1, .bool g2, .string n2, .string d2] 23))
  rw [← hw1] at hB qa qb
  replace qa := Lib.hid qa
  replace qb := Lib.hid qb
  clear hw1
  go_wp2
  go_ret
  exact ⟨rfl, hB.out⟩

set_option maxRecDepth 100000 in
set_option maxHeartbeats 4000000 in
theorem rtexts_at (g1 g2 : Bool) (n1 d1 n2 d2 t : ByteArray) (sn1 : n1.size ≤ 300) (sd1 : d1.size ≤ 300) (_sn2 : n2.size ≤ 300) (_sd2 : d2.size ≤ 300) (ht : t.size ≤ 620) (hs : shortB 300 [(n1, d1), (n2, d2)] = true) (po : pok t = true) (va : validB g1 n1 d1 = false) (w : World) (hE : REnv w) :
    Calls Tryz.prog 8 #[.agg #[.bool g1, .string n1, .string d1], .agg #[.bool g2, .string n2, .string d2], .string t] w fun e w' => e = .returned (.bool true) ∧ Below w.heap.size w w' := by
  replace hE := Lib.hid hE
  have kp := fun W (h : REnv W) => Parse_any t W h (by omega)
  rw [po] at kp
  have hsp := show_parse po
  have zp := size_of_valid hsp.1
  have kt := fun W (h : Env W) => Text_good (pneg t) (pnum t) (pden t) W h (by omega) (by omega) hsp.1
  rw [hsp.2] at kt
  have kv := fun W (h : Env W) => Valid_any (pneg t) (pnum t) (pden t) W h (by omega) (by omega)
  rw [hsp.1] at kv
  generalize pneg t = p1 at *
  generalize pnum t = p2 at *
  generalize pden t = p3 at *
  clear hsp zp
  simp only [if_true] at kp
  clear po
  replace kp := Lib.hid kp
  replace kt := Lib.hid kt
  replace kv := Lib.hid kv
  have ka := fun W (h : Env W) => Text_bad g1 n1 d1 W h (by omega) (by omega) va
  have kva := fun W (h : Env W) => Valid_any g1 n1 d1 W h (by omega) (by omega)
  rw [va] at kva
  clear va
  replace ka := Lib.hid ka
  replace kva := Lib.hid kva
  replace hs := Lib.hid hs
  go_enter Tryz.func8, Tryz.ntmps8
  go_wp2_with fail
  refine (rhead_any _ (hE.out.below (duoW_below w g1 g2 n1 d1 n2 d2))).mono ?_
  rintro e w0 ⟨rfl, hb⟩
  obtain ⟨qa, qb⟩ := duoW_boxes w g1 g2 n1 d1 n2 d2
  replace qa := Lib.hid (qa.below hb)
  replace qb := Lib.hid (qb.below hb)
  have hB := Lib.hid ((duoW_below w g1 g2 n1 d1 n2 d2).trans (hb.mono (duoW_below w g1 g2 n1 d1 n2 d2).size))
  clear hb
  obtain ⟨a1, a2, a3, a4, a5, a6⟩ := qa.out.facts
  have a7 := qa.out.lt
  obtain ⟨b1, b2, b3, b4, b5, b6⟩ := qb.out.facts
  have b7 := qb.out.lt
  go_wp2_with fail
  refine (short_any 300 [(n1, d1), (n2, d2)] w0.heap.size 2 _ (by simp) (raws2 w0 g1 g2 n1 d1 n2 d2)).mono ?_
  rintro e wx ⟨rfl, rfl⟩
  rw [hs.out]
  clear a1 a2 a3 a4 a5 a6 a7 b1 b2 b3 b4 b5 b6 b7
  obtain ⟨w1, hw1⟩ : ∃ W, W = w0.alloc (.cells #[.bool g1, .string n1, .string d1, .bool g2, .string n2, .string d2] 23) := ⟨_, rfl⟩
  rw [← hw1]
  replace qa := qa.out
  replace qb := qb.out
  replace qa := qa.alloc (.cells #[.bool g1, .string n1, .string d1, .bool g2, .string n2, .string d2] 23)
  replace qb := qb.alloc (.cells #[.bool g1, .string n1, .string d1, .bool g2, .string n2, .string d2] 23)
  replace hB := Lib.hid (hB.out.alloc hB.out.size (.cells #[.bool g1, .string n1, .string d1, .bool g2, .string n2, .string d2] 23))
  rw [← hw1] at hB qa qb
  replace qa := Lib.hid qa
  replace qb := Lib.hid qb
  clear hw1
  obtain ⟨a1, a2, a3, a4, a5, a6⟩ := qa.out.facts
  have a7 := qa.out.lt
  go_wp2_with fail
  have hBp := hB
  refine (ka.out _ (hE.out.below hBp.out).1).mono ?_
  rintro e w2 ⟨rfl, hb⟩
  clear a1 a2 a3 a4 a5 a6 a7
  replace qa := Lib.hid (qa.out.below hb)
  replace qb := Lib.hid (qb.out.below hb)
  replace hB := Lib.hid (hBp.out.trans (hb.mono hBp.out.size))
  clear hb hBp
  obtain ⟨a1, a2, a3, a4, a5, a6⟩ := qa.out.facts
  have a7 := qa.out.lt
  go_wp2_with fail
  have hBp := hB
  refine (kva.out _ (hE.out.below hBp.out).1).mono ?_
  rintro e w3 ⟨rfl, hb⟩
  clear a1 a2 a3 a4 a5 a6 a7
  replace qa := Lib.hid (qa.out.below hb)
  replace qb := Lib.hid (qb.out.below hb)
  replace hB := Lib.hid (hBp.out.trans (hb.mono hBp.out.size))
  clear hb hBp
  obtain ⟨a1, a2, a3, a4, a5, a6⟩ := qa.out.facts
  have a7 := qa.out.lt
  obtain ⟨b1, b2, b3, b4, b5, b6⟩ := qb.out.facts
  have b7 := qb.out.lt
  go_wp2_with fail
  have hBp := hB
  refine (kp.out _ (hE.out.below hBp.out)).mono ?_
  rintro e w4 ⟨rfl, hb⟩
  clear a1 a2 a3 a4 a5 a6 a7 b1 b2 b3 b4 b5 b6 b7
  replace qa := Lib.hid (qa.out.below hb)
  replace qb := Lib.hid (qb.out.below hb)
  replace hB := Lib.hid (hBp.out.trans (hb.mono hBp.out.size))
  clear hb hBp
  obtain ⟨a1, a2, a3, a4, a5, a6⟩ := qa.out.facts
  have a7 := qa.out.lt
  obtain ⟨b1, b2, b3, b4, b5, b6⟩ := qb.out.facts
  have b7 := qb.out.lt
  go_wp2_with fail
  have hBp : Hid (Below w.heap.size w (w4.alloc (.cells #[.bool p1, .string p2, .string p3] 23))) := hB.out.alloc hB.out.size _
  refine (kt.out _ (hE.out.below hBp.out).1).mono ?_
  rintro e w5 ⟨rfl, hb⟩
  clear a1 a2 a3 a4 a5 a6 a7 b1 b2 b3 b4 b5 b6 b7
  replace qa := Lib.hid ((qa.out.alloc _).below hb)
  replace qb := Lib.hid ((qb.out.alloc _).below hb)
  have qx := Lib.hid ((B3.new w4 p1 p2 p3).below hb)
  replace hB := Lib.hid (hBp.out.trans (hb.mono hBp.out.size))
  clear hb hBp
  obtain ⟨x1, x2, x3, x4, x5, x6⟩ := qx.out.facts
  have x7 := qx.out.lt
  go_wp2_with fail
  have hBp := hB
  refine (kv.out _ (hE.out.below hBp.out).1).mono ?_
  rintro e w6 ⟨rfl, hb⟩
  clear x1 x2 x3 x4 x5 x6 x7
  replace qa := Lib.hid (qa.out.below hb)
  replace qb := Lib.hid (qb.out.below hb)
  replace qx := Lib.hid (qx.out.below hb)
  replace hB := Lib.hid (hBp.out.trans (hb.mono hBp.out.size))
  clear hb hBp
  obtain ⟨x1, x2, x3, x4, x5, x6⟩ := qx.out.facts
  have x7 := qx.out.lt
  go_wp2
  go_ret
  exact ⟨rfl, hB.out⟩

set_option maxRecDepth 100000 in
set_option maxHeartbeats 4000000 in
theorem rtexts_nt (g1 g2 : Bool) (n1 d1 n2 d2 t : ByteArray) (sn1 : n1.size ≤ 300) (sd1 : d1.size ≤ 300) (sn2 : n2.size ≤ 300) (sd2 : d2.size ≤ 300) (ht : t.size ≤ 620) (hs : shortB 300 [(n1, d1), (n2, d2)] = true) (po : pok t = true) (va : validB g1 n1 d1 = true) (vb : validB g2 n2 d2 = false) (w : World) (hE : REnv w) :
    Calls Tryz.prog 8 #[.agg #[.bool g1, .string n1, .string d1], .agg #[.bool g2, .string n2, .string d2], .string t] w fun e w' => e = .returned (.bool true) ∧ Below w.heap.size w w' := by
  replace hE := Lib.hid hE
  have kp := fun W (h : REnv W) => Parse_any t W h (by omega)
  rw [po] at kp
  have hsp := show_parse po
  have zp := size_of_valid hsp.1
  have kt := fun W (h : Env W) => Text_good (pneg t) (pnum t) (pden t) W h (by omega) (by omega) hsp.1
  rw [hsp.2] at kt
  have kv := fun W (h : Env W) => Valid_any (pneg t) (pnum t) (pden t) W h (by omega) (by omega)
  rw [hsp.1] at kv
  generalize pneg t = p1 at *
  generalize pnum t = p2 at *
  generalize pden t = p3 at *
  clear hsp zp
  simp only [if_true] at kp
  clear po
  replace kp := Lib.hid kp
  replace kt := Lib.hid kt
  replace kv := Lib.hid kv
  have ka := fun W (h : Env W) => Text_good g1 n1 d1 W h (by omega) (by omega) va
  have kva := fun W (h : Env W) => Valid_any g1 n1 d1 W h (by omega) (by omega)
  rw [va] at kva
  have hps := parse_show va
  have zs := showV_size g1 n1 d1
  have kb := fun W (h : REnv W) => Parse_any (showV g1 n1 d1) W h (by omega)
  rw [hps.1, hps.2.1, hps.2.2.1, hps.2.2.2] at kb
  simp only [if_true] at kb
  clear hps zs va
  replace ka := Lib.hid ka
  replace kva := Lib.hid kva
  replace kb := Lib.hid kb
  have kc := fun W (h : Env W) => Text_bad g2 n2 d2 W h (by omega) (by omega) vb
  clear vb
  replace kc := Lib.hid kc
  generalize showV g1 n1 d1 = s at *
  replace hs := Lib.hid hs
  go_enter Tryz.func8, Tryz.ntmps8
  go_wp2_with fail
  refine (rhead_any _ (hE.out.below (duoW_below w g1 g2 n1 d1 n2 d2))).mono ?_
  rintro e w0 ⟨rfl, hb⟩
  obtain ⟨qa, qb⟩ := duoW_boxes w g1 g2 n1 d1 n2 d2
  replace qa := Lib.hid (qa.below hb)
  replace qb := Lib.hid (qb.below hb)
  have hB := Lib.hid ((duoW_below w g1 g2 n1 d1 n2 d2).trans (hb.mono (duoW_below w g1 g2 n1 d1 n2 d2).size))
  clear hb
  obtain ⟨a1, a2, a3, a4, a5, a6⟩ := qa.out.facts
  have a7 := qa.out.lt
  obtain ⟨b1, b2, b3, b4, b5, b6⟩ := qb.out.facts
  have b7 := qb.out.lt
  go_wp2_with fail
  refine (short_any 300 [(n1, d1), (n2, d2)] w0.heap.size 2 _ (by simp) (raws2 w0 g1 g2 n1 d1 n2 d2)).mono ?_
  rintro e wx ⟨rfl, rfl⟩
  rw [hs.out]
  clear a1 a2 a3 a4 a5 a6 a7 b1 b2 b3 b4 b5 b6 b7
  obtain ⟨w1, hw1⟩ : ∃ W, W = w0.alloc (.cells #[.bool g1, .string n1, .string d1, .bool g2, .string n2, .string d2] 23) := ⟨_, rfl⟩
  rw [← hw1]
  replace qa := qa.out
  replace qb := qb.out
  replace qa := qa.alloc (.cells #[.bool g1, .string n1, .string d1, .bool g2, .string n2, .string d2] 23)
  replace qb := qb.alloc (.cells #[.bool g1, .string n1, .string d1, .bool g2, .string n2, .string d2] 23)
  replace hB := Lib.hid (hB.out.alloc hB.out.size (.cells #[.bool g1, .string n1, .string d1, .bool g2, .string n2, .string d2] 23))
  rw [← hw1] at hB qa qb
  replace qa := Lib.hid qa
  replace qb := Lib.hid qb
  clear hw1
  obtain ⟨a1, a2, a3, a4, a5, a6⟩ := qa.out.facts
  have a7 := qa.out.lt
  go_wp2_with fail
  have hBp := hB
  refine (ka.out _ (hE.out.below hBp.out).1).mono ?_
  rintro e w2 ⟨rfl, hb⟩
  clear a1 a2 a3 a4 a5 a6 a7
  replace qa := Lib.hid (qa.out.below hb)
  replace qb := Lib.hid (qb.out.below hb)
  replace hB := Lib.hid (hBp.out.trans (hb.mono hBp.out.size))
  clear hb hBp
  obtain ⟨a1, a2, a3, a4, a5, a6⟩ := qa.out.facts
  have a7 := qa.out.lt
  go_wp2_with fail
  have hBp := hB
  refine (kva.out _ (hE.out.below hBp.out).1).mono ?_
  rintro e w3 ⟨rfl, hb⟩
  clear a1 a2 a3 a4 a5 a6 a7
  replace qa := Lib.hid (qa.out.below hb)
  replace qb := Lib.hid (qb.out.below hb)
  replace hB := Lib.hid (hBp.out.trans (hb.mono hBp.out.size))
  clear hb hBp
  obtain ⟨a1, a2, a3, a4, a5, a6⟩ := qa.out.facts
  have a7 := qa.out.lt
  obtain ⟨b1, b2, b3, b4, b5, b6⟩ := qb.out.facts
  have b7 := qb.out.lt
  go_wp2_with fail
  have hBp := hB
  refine (kb.out _ (hE.out.below hBp.out)).mono ?_
  rintro e w4 ⟨rfl, hb⟩
  clear a1 a2 a3 a4 a5 a6 a7 b1 b2 b3 b4 b5 b6 b7
  replace qa := Lib.hid (qa.out.below hb)
  replace qb := Lib.hid (qb.out.below hb)
  replace hB := Lib.hid (hBp.out.trans (hb.mono hBp.out.size))
  clear hb hBp
  obtain ⟨a1, a2, a3, a4, a5, a6⟩ := qa.out.facts
  have a7 := qa.out.lt
  obtain ⟨b1, b2, b3, b4, b5, b6⟩ := qb.out.facts
  have b7 := qb.out.lt
  go_wp2_with fail
  have hBp : Hid (Below w.heap.size w (w4.alloc (.cells #[.bool g1, .string n1, .string d1] 23))) := hB.out.alloc hB.out.size _
  refine (kc.out _ (hE.out.below hBp.out).1).mono ?_
  rintro e w5 ⟨rfl, hb⟩
  clear a1 a2 a3 a4 a5 a6 a7 b1 b2 b3 b4 b5 b6 b7
  replace qa := Lib.hid ((qa.out.alloc _).below hb)
  replace qb := Lib.hid ((qb.out.alloc _).below hb)
  have qback := Lib.hid ((B3.new w4 g1 n1 d1).below hb)
  replace hB := Lib.hid (hBp.out.trans (hb.mono hBp.out.size))
  clear hb hBp
  obtain ⟨a1, a2, a3, a4, a5, a6⟩ := qa.out.facts
  have a7 := qa.out.lt
  obtain ⟨b1, b2, b3, b4, b5, b6⟩ := qb.out.facts
  have b7 := qb.out.lt
  obtain ⟨back1, back2, back3, back4, back5, back6⟩ := qback.out.facts
  have back7 := qback.out.lt
  go_wp2_with fail
  have hBp := hB
  refine (kp.out _ (hE.out.below hBp.out)).mono ?_
  rintro e w6 ⟨rfl, hb⟩
  clear a1 a2 a3 a4 a5 a6 a7 b1 b2 b3 b4 b5 b6 b7 back1 back2 back3 back4 back5 back6 back7
  replace qa := Lib.hid (qa.out.below hb)
  replace qb := Lib.hid (qb.out.below hb)
  replace qback := Lib.hid (qback.out.below hb)
  replace hB := Lib.hid (hBp.out.trans (hb.mono hBp.out.size))
  clear hb hBp
  go_wp2_with fail
  have hBp : Hid (Below w.heap.size w (w6.alloc (.cells #[.bool p1, .string p2, .string p3] 23))) := hB.out.alloc hB.out.size _
  refine (kt.out _ (hE.out.below hBp.out).1).mono ?_
  rintro e w7 ⟨rfl, hb⟩
  replace qa := Lib.hid ((qa.out.alloc _).below hb)
  replace qb := Lib.hid ((qb.out.alloc _).below hb)
  replace qback := Lib.hid ((qback.out.alloc _).below hb)
  have qx := Lib.hid ((B3.new w6 p1 p2 p3).below hb)
  replace hB := Lib.hid (hBp.out.trans (hb.mono hBp.out.size))
  clear hb hBp
  obtain ⟨x1, x2, x3, x4, x5, x6⟩ := qx.out.facts
  have x7 := qx.out.lt
  go_wp2_with fail
  have hBp := hB
  refine (kv.out _ (hE.out.below hBp.out).1).mono ?_
  rintro e w8 ⟨rfl, hb⟩
  clear x1 x2 x3 x4 x5 x6 x7
  replace qa := Lib.hid (qa.out.below hb)
  replace qb := Lib.hid (qb.out.below hb)
  replace qback := Lib.hid (qback.out.below hb)
  replace qx := Lib.hid (qx.out.below hb)
  replace hB := Lib.hid (hBp.out.trans (hb.mono hBp.out.size))
  clear hb hBp
  obtain ⟨x1, x2, x3, x4, x5, x6⟩ := qx.out.facts
  have x7 := qx.out.lt
  go_wp2
  go_ret
  exact ⟨rfl, hB.out⟩

set_option maxRecDepth 100000 in
set_option maxHeartbeats 4000000 in
theorem rtexts_dt (g1 g2 : Bool) (n1 d1 n2 d2 t : ByteArray) (sn1 : n1.size ≤ 300) (sd1 : d1.size ≤ 300) (sn2 : n2.size ≤ 300) (sd2 : d2.size ≤ 300) (ht : t.size ≤ 620) (hs : shortB 300 [(n1, d1), (n2, d2)] = true) (po : pok t = true) (va : validB g1 n1 d1 = true) (vb : validB g2 n2 d2 = true) (st : ((showV g1 n1 d1).toList == (showV g2 n2 d2).toList) = false) (w : World) (hE : REnv w) :
    Calls Tryz.prog 8 #[.agg #[.bool g1, .string n1, .string d1], .agg #[.bool g2, .string n2, .string d2], .string t] w fun e w' => e = .returned (.bool true) ∧ Below w.heap.size w w' := by
  replace hE := Lib.hid hE
  have kp := fun W (h : REnv W) => Parse_any t W h (by omega)
  rw [po] at kp
  have hsp := show_parse po
  have zp := size_of_valid hsp.1
  have kt := fun W (h : Env W) => Text_good (pneg t) (pnum t) (pden t) W h (by omega) (by omega) hsp.1
  rw [hsp.2] at kt
  have kv := fun W (h : Env W) => Valid_any (pneg t) (pnum t) (pden t) W h (by omega) (by omega)
  rw [hsp.1] at kv
  generalize pneg t = p1 at *
  generalize pnum t = p2 at *
  generalize pden t = p3 at *
  clear hsp zp
  simp only [if_true] at kp
  clear po
  replace kp := Lib.hid kp
  replace kt := Lib.hid kt
  replace kv := Lib.hid kv
  have ka := fun W (h : Env W) => Text_good g1 n1 d1 W h (by omega) (by omega) va
  have kva := fun W (h : Env W) => Valid_any g1 n1 d1 W h (by omega) (by omega)
  rw [va] at kva
  have hps := parse_show va
  have zs := showV_size g1 n1 d1
  have kb := fun W (h : REnv W) => Parse_any (showV g1 n1 d1) W h (by omega)
  rw [hps.1, hps.2.1, hps.2.2.1, hps.2.2.2] at kb
  simp only [if_true] at kb
  clear hps zs va
  replace ka := Lib.hid ka
  replace kva := Lib.hid kva
  replace kb := Lib.hid kb
  have kc := fun W (h : Env W) => Text_good g2 n2 d2 W h (by omega) (by omega) vb
  clear vb
  replace kc := Lib.hid kc
  generalize showV g1 n1 d1 = s at *
  generalize showV g2 n2 d2 = s2 at *
  replace hs := Lib.hid hs
  go_enter Tryz.func8, Tryz.ntmps8
  go_wp2_with fail
  refine (rhead_any _ (hE.out.below (duoW_below w g1 g2 n1 d1 n2 d2))).mono ?_
  rintro e w0 ⟨rfl, hb⟩
  obtain ⟨qa, qb⟩ := duoW_boxes w g1 g2 n1 d1 n2 d2
  replace qa := Lib.hid (qa.below hb)
  replace qb := Lib.hid (qb.below hb)
  have hB := Lib.hid ((duoW_below w g1 g2 n1 d1 n2 d2).trans (hb.mono (duoW_below w g1 g2 n1 d1 n2 d2).size))
  clear hb
  obtain ⟨a1, a2, a3, a4, a5, a6⟩ := qa.out.facts
  have a7 := qa.out.lt
  obtain ⟨b1, b2, b3, b4, b5, b6⟩ := qb.out.facts
  have b7 := qb.out.lt
  go_wp2_with fail
  refine (short_any 300 [(n1, d1), (n2, d2)] w0.heap.size 2 _ (by simp) (raws2 w0 g1 g2 n1 d1 n2 d2)).mono ?_
  rintro e wx ⟨rfl, rfl⟩
  rw [hs.out]
  clear a1 a2 a3 a4 a5 a6 a7 b1 b2 b3 b4 b5 b6 b7
  obtain ⟨w1, hw1⟩ : ∃ W, W = w0.alloc (.cells #[.bool g1, .string n1, .string d1, .bool g2, .string n2, .string d2] 23) := ⟨_, rfl⟩
  rw [← hw1]
  replace qa := qa.out
  replace qb := qb.out
  replace qa := qa.alloc (.cells #[.bool g1, .string n1, .string d1, .bool g2, .string n2, .string d2] 23)
  replace qb := qb.alloc (.cells #[.bool g1, .string n1, .string d1, .bool g2, .string n2, .string d2] 23)
  replace hB := Lib.hid (hB.out.alloc hB.out.size (.cells #[.bool g1, .string n1, .string d1, .bool g2, .string n2, .string d2] 23))
  rw [← hw1] at hB qa qb
  replace qa := Lib.hid qa
  replace qb := Lib.hid qb
  clear hw1
  obtain ⟨a1, a2, a3, a4, a5, a6⟩ := qa.out.facts
  have a7 := qa.out.lt
  go_wp2_with fail
  have hBp := hB
  refine (ka.out _ (hE.out.below hBp.out).1).mono ?_
  rintro e w2 ⟨rfl, hb⟩
  clear a1 a2 a3 a4 a5 a6 a7
  replace qa := Lib.hid (qa.out.below hb)
  replace qb := Lib.hid (qb.out.below hb)
  replace hB := Lib.hid (hBp.out.trans (hb.mono hBp.out.size))
  clear hb hBp
  obtain ⟨a1, a2, a3, a4, a5, a6⟩ := qa.out.facts
  have a7 := qa.out.lt
  go_wp2_with fail
  have hBp := hB
  refine (kva.out _ (hE.out.below hBp.out).1).mono ?_
  rintro e w3 ⟨rfl, hb⟩
  clear a1 a2 a3 a4 a5 a6 a7
  replace qa := Lib.hid (qa.out.below hb)
  replace qb := Lib.hid (qb.out.below hb)
  replace hB := Lib.hid (hBp.out.trans (hb.mono hBp.out.size))
  clear hb hBp
  obtain ⟨a1, a2, a3, a4, a5, a6⟩ := qa.out.facts
  have a7 := qa.out.lt
  obtain ⟨b1, b2, b3, b4, b5, b6⟩ := qb.out.facts
  have b7 := qb.out.lt
  go_wp2_with fail
  have hBp := hB
  refine (kb.out _ (hE.out.below hBp.out)).mono ?_
  rintro e w4 ⟨rfl, hb⟩
  clear a1 a2 a3 a4 a5 a6 a7 b1 b2 b3 b4 b5 b6 b7
  replace qa := Lib.hid (qa.out.below hb)
  replace qb := Lib.hid (qb.out.below hb)
  replace hB := Lib.hid (hBp.out.trans (hb.mono hBp.out.size))
  clear hb hBp
  obtain ⟨a1, a2, a3, a4, a5, a6⟩ := qa.out.facts
  have a7 := qa.out.lt
  obtain ⟨b1, b2, b3, b4, b5, b6⟩ := qb.out.facts
  have b7 := qb.out.lt
  go_wp2_with fail
  have hBp : Hid (Below w.heap.size w (w4.alloc (.cells #[.bool g1, .string n1, .string d1] 23))) := hB.out.alloc hB.out.size _
  refine (kc.out _ (hE.out.below hBp.out).1).mono ?_
  rintro e w5 ⟨rfl, hb⟩
  clear a1 a2 a3 a4 a5 a6 a7 b1 b2 b3 b4 b5 b6 b7
  replace qa := Lib.hid ((qa.out.alloc _).below hb)
  replace qb := Lib.hid ((qb.out.alloc _).below hb)
  have qback := Lib.hid ((B3.new w4 g1 n1 d1).below hb)
  replace hB := Lib.hid (hBp.out.trans (hb.mono hBp.out.size))
  clear hb hBp
  obtain ⟨a1, a2, a3, a4, a5, a6⟩ := qa.out.facts
  have a7 := qa.out.lt
  obtain ⟨b1, b2, b3, b4, b5, b6⟩ := qb.out.facts
  have b7 := qb.out.lt
  obtain ⟨back1, back2, back3, back4, back5, back6⟩ := qback.out.facts
  have back7 := qback.out.lt
  go_wp2_with fail
  have hBp := hB
  refine (kp.out _ (hE.out.below hBp.out)).mono ?_
  rintro e w6 ⟨rfl, hb⟩
  clear a1 a2 a3 a4 a5 a6 a7 b1 b2 b3 b4 b5 b6 b7 back1 back2 back3 back4 back5 back6 back7
  replace qa := Lib.hid (qa.out.below hb)
  replace qb := Lib.hid (qb.out.below hb)
  replace qback := Lib.hid (qback.out.below hb)
  replace hB := Lib.hid (hBp.out.trans (hb.mono hBp.out.size))
  clear hb hBp
  go_wp2_with fail
  have hBp : Hid (Below w.heap.size w (w6.alloc (.cells #[.bool p1, .string p2, .string p3] 23))) := hB.out.alloc hB.out.size _
  refine (kt.out _ (hE.out.below hBp.out).1).mono ?_
  rintro e w7 ⟨rfl, hb⟩
  replace qa := Lib.hid ((qa.out.alloc _).below hb)
  replace qb := Lib.hid ((qb.out.alloc _).below hb)
  replace qback := Lib.hid ((qback.out.alloc _).below hb)
  have qx := Lib.hid ((B3.new w6 p1 p2 p3).below hb)
  replace hB := Lib.hid (hBp.out.trans (hb.mono hBp.out.size))
  clear hb hBp
  obtain ⟨x1, x2, x3, x4, x5, x6⟩ := qx.out.facts
  have x7 := qx.out.lt
  go_wp2_with fail
  have hBp := hB
  refine (kv.out _ (hE.out.below hBp.out).1).mono ?_
  rintro e w8 ⟨rfl, hb⟩
  clear x1 x2 x3 x4 x5 x6 x7
  replace qa := Lib.hid (qa.out.below hb)
  replace qb := Lib.hid (qb.out.below hb)
  replace qback := Lib.hid (qback.out.below hb)
  replace qx := Lib.hid (qx.out.below hb)
  replace hB := Lib.hid (hBp.out.trans (hb.mono hBp.out.size))
  clear hb hBp
  obtain ⟨x1, x2, x3, x4, x5, x6⟩ := qx.out.facts
  have x7 := qx.out.lt
  go_wp2
  go_ret
  exact ⟨rfl, hB.out⟩

set_option maxRecDepth 100000 in
set_option maxHeartbeats 4000000 in
theorem rtexts_st (g1 : Bool) (n1 d1 t : ByteArray) (sn1 : n1.size ≤ 300) (sd1 : d1.size ≤ 300) (ht : t.size ≤ 620) (hs : shortB 300 [(n1, d1), (n1, d1)] = true) (po : pok t = true) (va : validB g1 n1 d1 = true) (w : World) (hE : REnv w) :
    Calls Tryz.prog 8 #[.agg #[.bool g1, .string n1, .string d1], .agg #[.bool g1, .string n1, .string d1], .string t] w fun e w' => e = .returned (.bool true) ∧ Below w.heap.size w w' := by
  replace hE := Lib.hid hE
  have kp := fun W (h : REnv W) => Parse_any t W h (by omega)
  rw [po] at kp
  have hsp := show_parse po
  have zp := size_of_valid hsp.1
  have kt := fun W (h : Env W) => Text_good (pneg t) (pnum t) (pden t) W h (by omega) (by omega) hsp.1
  rw [hsp.2] at kt
  have kv := fun W (h : Env W) => Valid_any (pneg t) (pnum t) (pden t) W h (by omega) (by omega)
  rw [hsp.1] at kv
  generalize pneg t = p1 at *
  generalize pnum t = p2 at *
  generalize pden t = p3 at *
  clear hsp zp
  simp only [if_true] at kp
  clear po
  replace kp := Lib.hid kp
  replace kt := Lib.hid kt
  replace kv := Lib.hid kv
  have ka := fun W (h : Env W) => Text_good g1 n1 d1 W h (by omega) (by omega) va
  have kva := fun W (h : Env W) => Valid_any g1 n1 d1 W h (by omega) (by omega)
  rw [va] at kva
  have hps := parse_show va
  have zs := showV_size g1 n1 d1
  have kb := fun W (h : REnv W) => Parse_any (showV g1 n1 d1) W h (by omega)
  rw [hps.1, hps.2.1, hps.2.2.1, hps.2.2.2] at kb
  simp only [if_true] at kb
  clear hps zs va
  replace ka := Lib.hid ka
  replace kva := Lib.hid kva
  replace kb := Lib.hid kb
  have kc := ka
  generalize showV g1 n1 d1 = s at *
  replace hs := Lib.hid hs
  go_enter Tryz.func8, Tryz.ntmps8
  go_wp2_with fail
  refine (rhead_any _ (hE.out.below (duoW_below w g1 g1 n1 d1 n1 d1))).mono ?_
  rintro e w0 ⟨rfl, hb⟩
  obtain ⟨qa, qb⟩ := duoW_boxes w g1 g1 n1 d1 n1 d1
  replace qa := Lib.hid (qa.below hb)
  replace qb := Lib.hid (qb.below hb)
  have hB := Lib.hid ((duoW_below w g1 g1 n1 d1 n1 d1).trans (hb.mono (duoW_below w g1 g1 n1 d1 n1 d1).size))
  clear hb
  obtain ⟨a1, a2, a3, a4, a5, a6⟩ := qa.out.facts
  have a7 := qa.out.lt
  obtain ⟨b1, b2, b3, b4, b5, b6⟩ := qb.out.facts
  have b7 := qb.out.lt
  go_wp2_with fail
  refine (short_any 300 [(n1, d1), (n1, d1)] w0.heap.size 2 _ (by simp) (raws2 w0 g1 g1 n1 d1 n1 d1)).mono ?_
  rintro e wx ⟨rfl, rfl⟩
  rw [hs.out]
  clear a1 a2 a3 a4 a5 a6 a7 b1 b2 b3 b4 b5 b6 b7
  obtain ⟨w1, hw1⟩ : ∃ W, W = w0.alloc (.cells #[.bool g1, .string n1, .string d1, .bool g1, .string n1, .string d1] 23) := ⟨_, rfl⟩
  rw [← hw1]
  replace qa := qa.out
  replace qb := qb.out
  replace qa := qa.alloc (.cells #[.bool g1, .string n1, .string d1, .bool g1, .string n1, .string d1] 23)
  replace qb := qb.alloc (.cells #[.bool g1, .string n1, .string d1, .bool g1, .string n1, .string d1] 23)
  replace hB := Lib.hid (hB.out.alloc hB.out.size (.cells #[.bool g1, .string n1, .string d1, .bool g1, .string n1, .string d1] 23))
  rw [← hw1] at hB qa qb
  replace qa := Lib.hid qa
  replace qb := Lib.hid qb
  clear hw1
  obtain ⟨a1, a2, a3, a4, a5, a6⟩ := qa.out.facts
  have a7 := qa.out.lt
  go_wp2_with fail
  have hBp := hB
  refine (ka.out _ (hE.out.below hBp.out).1).mono ?_
  rintro e w2 ⟨rfl, hb⟩
  clear a1 a2 a3 a4 a5 a6 a7
  replace qa := Lib.hid (qa.out.below hb)
  replace qb := Lib.hid (qb.out.below hb)
  replace hB := Lib.hid (hBp.out.trans (hb.mono hBp.out.size))
  clear hb hBp
  obtain ⟨a1, a2, a3, a4, a5, a6⟩ := qa.out.facts
  have a7 := qa.out.lt
  go_wp2_with fail
  have hBp := hB
  refine (kva.out _ (hE.out.below hBp.out).1).mono ?_
  rintro e w3 ⟨rfl, hb⟩
  clear a1 a2 a3 a4 a5 a6 a7
  replace qa := Lib.hid (qa.out.below hb)
  replace qb := Lib.hid (qb.out.below hb)
  replace hB := Lib.hid (hBp.out.trans (hb.mono hBp.out.size))
  clear hb hBp
  obtain ⟨a1, a2, a3, a4, a5, a6⟩ := qa.out.facts
  have a7 := qa.out.lt
  obtain ⟨b1, b2, b3, b4, b5, b6⟩ := qb.out.facts
  have b7 := qb.out.lt
  go_wp2_with fail
  have hBp := hB
  refine (kb.out _ (hE.out.below hBp.out)).mono ?_
  rintro e w4 ⟨rfl, hb⟩
  clear a1 a2 a3 a4 a5 a6 a7 b1 b2 b3 b4 b5 b6 b7
  replace qa := Lib.hid (qa.out.below hb)
  replace qb := Lib.hid (qb.out.below hb)
  replace hB := Lib.hid (hBp.out.trans (hb.mono hBp.out.size))
  clear hb hBp
  obtain ⟨a1, a2, a3, a4, a5, a6⟩ := qa.out.facts
  have a7 := qa.out.lt
  obtain ⟨b1, b2, b3, b4, b5, b6⟩ := qb.out.facts
  have b7 := qb.out.lt
  go_wp2_with fail
  have hBp : Hid (Below w.heap.size w (w4.alloc (.cells #[.bool g1, .string n1, .string d1] 23))) := hB.out.alloc hB.out.size _
  refine (kc.out _ (hE.out.below hBp.out).1).mono ?_
  rintro e w5 ⟨rfl, hb⟩
  clear a1 a2 a3 a4 a5 a6 a7 b1 b2 b3 b4 b5 b6 b7
  replace qa := Lib.hid ((qa.out.alloc _).below hb)
  replace qb := Lib.hid ((qb.out.alloc _).below hb)
  have qback := Lib.hid ((B3.new w4 g1 n1 d1).below hb)
  replace hB := Lib.hid (hBp.out.trans (hb.mono hBp.out.size))
  clear hb hBp
  obtain ⟨a1, a2, a3, a4, a5, a6⟩ := qa.out.facts
  have a7 := qa.out.lt
  obtain ⟨b1, b2, b3, b4, b5, b6⟩ := qb.out.facts
  have b7 := qb.out.lt
  obtain ⟨back1, back2, back3, back4, back5, back6⟩ := qback.out.facts
  have back7 := qback.out.lt
  go_wp2_with fail
  have hBp := hB
  refine (kp.out _ (hE.out.below hBp.out)).mono ?_
  rintro e w6 ⟨rfl, hb⟩
  clear a1 a2 a3 a4 a5 a6 a7 b1 b2 b3 b4 b5 b6 b7 back1 back2 back3 back4 back5 back6 back7
  replace qa := Lib.hid (qa.out.below hb)
  replace qb := Lib.hid (qb.out.below hb)
  replace qback := Lib.hid (qback.out.below hb)
  replace hB := Lib.hid (hBp.out.trans (hb.mono hBp.out.size))
  clear hb hBp
  go_wp2_with fail
  have hBp : Hid (Below w.heap.size w (w6.alloc (.cells #[.bool p1, .string p2, .string p3] 23))) := hB.out.alloc hB.out.size _
  refine (kt.out _ (hE.out.below hBp.out).1).mono ?_
  rintro e w7 ⟨rfl, hb⟩
  replace qa := Lib.hid ((qa.out.alloc _).below hb)
  replace qb := Lib.hid ((qb.out.alloc _).below hb)
  replace qback := Lib.hid ((qback.out.alloc _).below hb)
  have qx := Lib.hid ((B3.new w6 p1 p2 p3).below hb)
  replace hB := Lib.hid (hBp.out.trans (hb.mono hBp.out.size))
  clear hb hBp
  obtain ⟨x1, x2, x3, x4, x5, x6⟩ := qx.out.facts
  have x7 := qx.out.lt
  go_wp2_with fail
  have hBp := hB
  refine (kv.out _ (hE.out.below hBp.out).1).mono ?_
  rintro e w8 ⟨rfl, hb⟩
  clear x1 x2 x3 x4 x5 x6 x7
  replace qa := Lib.hid (qa.out.below hb)
  replace qb := Lib.hid (qb.out.below hb)
  replace qback := Lib.hid (qback.out.below hb)
  replace qx := Lib.hid (qx.out.below hb)
  replace hB := Lib.hid (hBp.out.trans (hb.mono hBp.out.size))
  clear hb hBp
  obtain ⟨x1, x2, x3, x4, x5, x6⟩ := qx.out.facts
  have x7 := qx.out.lt
  go_wp2
  go_ret
  exact ⟨rfl, hB.out⟩

set_option maxRecDepth 100000 in
set_option maxHeartbeats 4000000 in
theorem rtexts_af (g1 g2 : Bool) (n1 d1 n2 d2 t : ByteArray) (sn1 : n1.size ≤ 300) (sd1 : d1.size ≤ 300) (_sn2 : n2.size ≤ 300) (_sd2 : d2.size ≤ 300) (ht : t.size ≤ 620) (hs : shortB 300 [(n1, d1), (n2, d2)] = true) (po : pok t = false) (va : validB g1 n1 d1 = false) (w : World) (hE : REnv w) :
    Calls Tryz.prog 8 #[.agg #[.bool g1, .string n1, .string d1], .agg #[.bool g2, .string n2, .string d2], .string t] w fun e w' => e = .returned (.bool true) ∧ Below w.heap.size w w' := by
  replace hE := Lib.hid hE
  have kp := fun W (h : REnv W) => Parse_any t W h (by omega)
  rw [po] at kp
  simp only [Bool.false_eq_true, if_false, zv] at kp
  clear po
  replace kp := Lib.hid kp
  have ka := fun W (h : Env W) => Text_bad g1 n1 d1 W h (by omega) (by omega) va
  have kva := fun W (h : Env W) => Valid_any g1 n1 d1 W h (by omega) (by omega)
  rw [va] at kva
  clear va
  replace ka := Lib.hid ka
  replace kva := Lib.hid kva
  replace hs := Lib.hid hs
  go_enter Tryz.func8, Tryz.ntmps8
  go_wp2_with fail
  refine (rhead_any _ (hE.out.below (duoW_below w g1 g2 n1 d1 n2 d2))).mono ?_
  rintro e w0 ⟨rfl, hb⟩
  obtain ⟨qa, qb⟩ := duoW_boxes w g1 g2 n1 d1 n2 d2
  replace qa := Lib.hid (qa.below hb)
  replace qb := Lib.hid (qb.below hb)
  have hB := Lib.hid ((duoW_below w g1 g2 n1 d1 n2 d2).trans (hb.mono (duoW_below w g1 g2 n1 d1 n2 d2).size))
  clear hb
  obtain ⟨a1, a2, a3, a4, a5, a6⟩ := qa.out.facts
  have a7 := qa.out.lt
  obtain ⟨b1, b2, b3, b4, b5, b6⟩ := qb.out.facts
  have b7 := qb.out.lt
  go_wp2_with fail
  refine (short_any 300 [(n1, d1), (n2, d2)] w0.heap.size 2 _ (by simp) (raws2 w0 g1 g2 n1 d1 n2 d2)).mono ?_
  rintro e wx ⟨rfl, rfl⟩
  rw [hs.out]
  clear a1 a2 a3 a4 a5 a6 a7 b1 b2 b3 b4 b5 b6 b7
  obtain ⟨w1, hw1⟩ : ∃ W, W = w0.alloc (.cells #[.bool g1, .string n1, .string d1, .bool g2, .string n2, .string d2] 23) := ⟨_, rfl⟩
  rw [← hw1]
  replace qa := qa.out
  replace qb := qb.out
  replace qa := qa.alloc (.cells #[.bool g1, .string n1, .string d1, .bool g2, .string n2, .string d2] 23)
  replace qb := qb.alloc (.cells #[.bool g1, .string n1, .string d1, .bool g2, .string n2, .string d2] 23)
  replace hB := Lib.hid (hB.out.alloc hB.out.size (.cells #[.bool g1, .string n1, .string d1, .bool g2, .string n2, .string d2] 23))
  rw [← hw1] at hB qa qb
  replace qa := Lib.hid qa
  replace qb := Lib.hid qb
  clear hw1
  obtain ⟨a1, a2, a3, a4, a5, a6⟩ := qa.out.facts
  have a7 := qa.out.lt
  go_wp2_with fail
  have hBp := hB
  refine (ka.out _ (hE.out.below hBp.out).1).mono ?_
  rintro e w2 ⟨rfl, hb⟩
  clear a1 a2 a3 a4 a5 a6 a7
  replace qa := Lib.hid (qa.out.below hb)
  replace qb := Lib.hid (qb.out.below hb)
  replace hB := Lib.hid (hBp.out.trans (hb.mono hBp.out.size))
  clear hb hBp
  obtain ⟨a1, a2, a3, a4, a5, a6⟩ := qa.out.facts
  have a7 := qa.out.lt
  go_wp2_with fail
  have hBp := hB
  refine (kva.out _ (hE.out.below hBp.out).1).mono ?_
  rintro e w3 ⟨rfl, hb⟩
  clear a1 a2 a3 a4 a5 a6 a7
  replace qa := Lib.hid (qa.out.below hb)
  replace qb := Lib.hid (qb.out.below hb)
  replace hB := Lib.hid (hBp.out.trans (hb.mono hBp.out.size))
  clear hb hBp
  obtain ⟨a1, a2, a3, a4, a5, a6⟩ := qa.out.facts
  have a7 := qa.out.lt
  obtain ⟨b1, b2, b3, b4, b5, b6⟩ := qb.out.facts
  have b7 := qb.out.lt
  go_wp2_with fail
  have hBp := hB
  refine (kp.out _ (hE.out.below hBp.out)).mono ?_
  rintro e w4 ⟨rfl, hb⟩
  clear a1 a2 a3 a4 a5 a6 a7 b1 b2 b3 b4 b5 b6 b7
  replace qa := Lib.hid (qa.out.below hb)
  replace qb := Lib.hid (qb.out.below hb)
  replace hB := Lib.hid (hBp.out.trans (hb.mono hBp.out.size))
  clear hb hBp
  obtain ⟨a1, a2, a3, a4, a5, a6⟩ := qa.out.facts
  have a7 := qa.out.lt
  obtain ⟨b1, b2, b3, b4, b5, b6⟩ := qb.out.facts
  have b7 := qb.out.lt
  go_wp2
  go_ret
  exact ⟨rfl, hB.out.alloc hB.out.size _⟩

set_option maxRecDepth 100000 in
set_option maxHeartbeats 4000000 in
theorem rtexts_nf (g1 g2 : Bool) (n1 d1 n2 d2 t : ByteArray) (sn1 : n1.size ≤ 300) (sd1 : d1.size ≤ 300) (sn2 : n2.size ≤ 300) (sd2 : d2.size ≤ 300) (ht : t.size ≤ 620) (hs : shortB 300 [(n1, d1), (n2, d2)] = true) (po : pok t = false) (va : validB g1 n1 d1 = true) (vb : validB g2 n2 d2 = false) (w : World) (hE : REnv w) :
    Calls Tryz.prog 8 #[.agg #[.bool g1, .string n1, .string d1], .agg #[.bool g2, .string n2, .string d2], .string t] w fun e w' => e = .returned (.bool true) ∧ Below w.heap.size w w' := by
  replace hE := Lib.hid hE
  have kp := fun W (h : REnv W) => Parse_any t W h (by omega)
  rw [po] at kp
  simp only [Bool.false_eq_true, if_false, zv] at kp
  clear po
  replace kp := Lib.hid kp
  have ka := fun W (h : Env W) => Text_good g1 n1 d1 W h (by omega) (by omega) va
  have kva := fun W (h : Env W) => Valid_any g1 n1 d1 W h (by omega) (by omega)
  rw [va] at kva
  have hps := parse_show va
  have zs := showV_size g1 n1 d1
  have kb := fun W (h : REnv W) => Parse_any (showV g1 n1 d1) W h (by omega)
  rw [hps.1, hps.2.1, hps.2.2.1, hps.2.2.2] at kb
  simp only [if_true] at kb
  clear hps zs va
  replace ka := Lib.hid ka
  replace kva := Lib.hid kva
  replace kb := Lib.hid kb
  have kc := fun W (h : Env W) => Text_bad g2 n2 d2 W h (by omega) (by omega) vb
  clear vb
  replace kc := Lib.hid kc
  generalize showV g1 n1 d1 = s at *
  replace hs := Lib.hid hs
  go_enter Tryz.func8, Tryz.ntmps8
  go_wp2_with fail
  refine (rhead_any _ (hE.out.below (duoW_below w g1 g2 n1 d1 n2 d2))).mono ?_
  rintro e w0 ⟨rfl, hb⟩
  obtain ⟨qa, qb⟩ := duoW_boxes w g1 g2 n1 d1 n2 d2
  replace qa := Lib.hid (qa.below hb)
  replace qb := Lib.hid (qb.below hb)
  have hB := Lib.hid ((duoW_below w g1 g2 n1 d1 n2 d2).trans (hb.mono (duoW_below w g1 g2 n1 d1 n2 d2).size))
  clear hb
  obtain ⟨a1, a2, a3, a4, a5, a6⟩ := qa.out.facts
  have a7 := qa.out.lt
  obtain ⟨b1, b2, b3, b4, b5, b6⟩ := qb.out.facts
  have b7 := qb.out.lt
  go_wp2_with fail
  refine (short_any 300 [(n1, d1), (n2, d2)] w0.heap.size 2 _ (by simp) (raws2 w0 g1 g2 n1 d1 n2 d2)).mono ?_
  rintro e wx ⟨rfl, rfl⟩
  rw [hs.out]
  clear a1 a2 a3 a4 a5 a6 a7 b1 b2 b3 b4 b5 b6 b7
  obtain ⟨w1, hw1⟩ : ∃ W, W = w0.alloc (.cells #[.bool g1, .string n1, .string d1, .bool g2, .string n2, .string d2] 23) := ⟨_, rfl⟩
  rw [← hw1]
  replace qa := qa.out
  replace qb := qb.out
  replace qa := qa.alloc (.cells #[.bool g1, .string n1, .string d1, .bool g2, .string n2, .string d2] 23)
  replace qb := qb.alloc (.cells #[.bool g1, .string n1, .string d1, .bool g2, .string n2, .string d2] 23)
  replace hB := Lib.hid (hB.out.alloc hB.out.size (.cells #[.bool g1, .string n1, .string d1, .bool g2, .string n2, .string d2] 23))
  rw [← hw1] at hB qa qb
  replace qa := Lib.hid qa
  replace qb := Lib.hid qb
  clear hw1
  obtain ⟨a1, a2, a3, a4, a5, a6⟩ := qa.out.facts
  have a7 := qa.out.lt
  go_wp2_with fail
  have hBp := hB
  refine (ka.out _ (hE.out.below hBp.out).1).mono ?_
  rintro e w2 ⟨rfl, hb⟩
  clear a1 a2 a3 a4 a5 a6 a7
  replace qa := Lib.hid (qa.out.below hb)
  replace qb := Lib.hid (qb.out.below hb)
  replace hB := Lib.hid (hBp.out.trans (hb.mono hBp.out.size))
  clear hb hBp
  obtain ⟨a1, a2, a3, a4, a5, a6⟩ := qa.out.facts
  have a7 := qa.out.lt
  go_wp2_with fail
  have hBp := hB
  refine (kva.out _ (hE.out.below hBp.out).1).mono ?_
  rintro e w3 ⟨rfl, hb⟩
  clear a1 a2 a3 a4 a5 a6 a7
  replace qa := Lib.hid (qa.out.below hb)
  replace qb := Lib.hid (qb.out.below hb)
  replace hB := Lib.hid (hBp.out.trans (hb.mono hBp.out.size))
  clear hb hBp
  obtain ⟨a1, a2, a3, a4, a5, a6⟩ := qa.out.facts
  have a7 := qa.out.lt
  obtain ⟨b1, b2, b3, b4, b5, b6⟩ := qb.out.facts
  have b7 := qb.out.lt
  go_wp2_with fail
  have hBp := hB
  refine (kb.out _ (hE.out.below hBp.out)).mono ?_
  rintro e w4 ⟨rfl, hb⟩
  clear a1 a2 a3 a4 a5 a6 a7 b1 b2 b3 b4 b5 b6 b7
  replace qa := Lib.hid (qa.out.below hb)
  replace qb := Lib.hid (qb.out.below hb)
  replace hB := Lib.hid (hBp.out.trans (hb.mono hBp.out.size))
  clear hb hBp
  obtain ⟨a1, a2, a3, a4, a5, a6⟩ := qa.out.facts
  have a7 := qa.out.lt
  obtain ⟨b1, b2, b3, b4, b5, b6⟩ := qb.out.facts
  have b7 := qb.out.lt
  go_wp2_with fail
  have hBp : Hid (Below w.heap.size w (w4.alloc (.cells #[.bool g1, .string n1, .string d1] 23))) := hB.out.alloc hB.out.size _
  refine (kc.out _ (hE.out.below hBp.out).1).mono ?_
  rintro e w5 ⟨rfl, hb⟩
  clear a1 a2 a3 a4 a5 a6 a7 b1 b2 b3 b4 b5 b6 b7
  replace qa := Lib.hid ((qa.out.alloc _).below hb)
  replace qb := Lib.hid ((qb.out.alloc _).below hb)
  have qback := Lib.hid ((B3.new w4 g1 n1 d1).below hb)
  replace hB := Lib.hid (hBp.out.trans (hb.mono hBp.out.size))
  clear hb hBp
  obtain ⟨a1, a2, a3, a4, a5, a6⟩ := qa.out.facts
  have a7 := qa.out.lt
  obtain ⟨b1, b2, b3, b4, b5, b6⟩ := qb.out.facts
  have b7 := qb.out.lt
  obtain ⟨back1, back2, back3, back4, back5, back6⟩ := qback.out.facts
  have back7 := qback.out.lt
  go_wp2_with fail
  have hBp := hB
  refine (kp.out _ (hE.out.below hBp.out)).mono ?_
  rintro e w6 ⟨rfl, hb⟩
  clear a1 a2 a3 a4 a5 a6 a7 b1 b2 b3 b4 b5 b6 b7 back1 back2 back3 back4 back5 back6 back7
  replace qa := Lib.hid (qa.out.below hb)
  replace qb := Lib.hid (qb.out.below hb)
  replace qback := Lib.hid (qback.out.below hb)
  replace hB := Lib.hid (hBp.out.trans (hb.mono hBp.out.size))
  clear hb hBp
  go_wp2
  go_ret
  exact ⟨rfl, hB.out.alloc hB.out.size _⟩

set_option maxRecDepth 100000 in
set_option maxHeartbeats 4000000 in
theorem rtexts_df (g1 g2 : Bool) (n1 d1 n2 d2 t : ByteArray) (sn1 : n1.size ≤ 300) (sd1 : d1.size ≤ 300) (sn2 : n2.size ≤ 300) (sd2 : d2.size ≤ 300) (ht : t.size ≤ 620) (hs : shortB 300 [(n1, d1), (n2, d2)] = true) (po : pok t = false) (va : validB g1 n1 d1 = true) (vb : validB g2 n2 d2 = true) (st : ((showV g1 n1 d1).toList == (showV g2 n2 d2).toList) = false) (w : World) (hE : REnv w) :
    Calls Tryz.prog 8 #[.agg #[.bool g1, .string n1, .string d1], .agg #[.bool g2, .string n2, .string d2], .string t] w fun e w' => e = .returned (.bool true) ∧ Below w.heap.size w w' := by
  replace hE := Lib.hid hE
  have kp := fun W (h : REnv W) => Parse_any t W h (by omega)
  rw [po] at kp
  simp only [Bool.false_eq_true, if_false, zv] at kp
  clear po
  replace kp := Lib.hid kp
  have ka := fun W (h : Env W) => Text_good g1 n1 d1 W h (by omega) (by omega) va
  have kva := fun W (h : Env W) => Valid_any g1 n1 d1 W h (by omega) (by omega)
  rw [va] at kva
  have hps := parse_show va
  have zs := showV_size g1 n1 d1
  have kb := fun W (h : REnv W) => Parse_any (showV g1 n1 d1) W h (by omega)
  rw [hps.1, hps.2.1, hps.2.2.1, hps.2.2.2] at kb
  simp only [if_true] at kb
  clear hps zs va
  replace ka := Lib.hid ka
  replace kva := Lib.hid kva
  replace kb := Lib.hid kb
  have kc := fun W (h : Env W) => Text_good g2 n2 d2 W h (by omega) (by omega) vb
  clear vb
  replace kc := Lib.hid kc
  generalize showV g1 n1 d1 = s at *
  generalize showV g2 n2 d2 = s2 at *
  replace hs := Lib.hid hs
  go_enter Tryz.func8, Tryz.ntmps8
  go_wp2_with fail
  refine (rhead_any _ (hE.out.below (duoW_below w g1 g2 n1 d1 n2 d2))).mono ?_
  rintro e w0 ⟨rfl, hb⟩
  obtain ⟨qa, qb⟩ := duoW_boxes w g1 g2 n1 d1 n2 d2
  replace qa := Lib.hid (qa.below hb)
  replace qb := Lib.hid (qb.below hb)
  have hB := Lib.hid ((duoW_below w g1 g2 n1 d1 n2 d2).trans (hb.mono (duoW_below w g1 g2 n1 d1 n2 d2).size))
  clear hb
  obtain ⟨a1, a2, a3, a4, a5, a6⟩ := qa.out.facts
  have a7 := qa.out.lt
  obtain ⟨b1, b2, b3, b4, b5, b6⟩ := qb.out.facts
  have b7 := qb.out.lt
  go_wp2_with fail
  refine (short_any 300 [(n1, d1), (n2, d2)] w0.heap.size 2 _ (by simp) (raws2 w0 g1 g2 n1 d1 n2 d2)).mono ?_
  rintro e wx ⟨rfl, rfl⟩
  rw [hs.out]
  clear a1 a2 a3 a4 a5 a6 a7 b1 b2 b3 b4 b5 b6 b7
  obtain ⟨w1, hw1⟩ : ∃ W, W = w0.alloc (.cells #[.bool g1, .string n1, .string d1, .bool g2, .string n2, .string d2] 23) := ⟨_, rfl⟩
  rw [← hw1]
  replace qa := qa.out
  replace qb := qb.out
  replace qa := qa.alloc (.cells #[.bool g1, .string n1, .string d1, .bool g2, .string n2, .string d2] 23)
  replace qb := qb.alloc (.cells #[.bool g1, .string n1, .string d1, .bool g2, .string n2, .string d2] 23)
  replace hB := Lib.hid (hB.out.alloc hB.out.size (.cells #[.bool g1, .string n1, .string d1, .bool g2, .string n2, .string d2] 23))
  rw [← hw1] at hB qa qb
  replace qa := Lib.hid qa
  replace qb := Lib.hid qb
  clear hw1
  obtain ⟨a1, a2, a3, a4, a5, a6⟩ := qa.out.facts
  have a7 := qa.out.lt
  go_wp2_with fail
  have hBp := hB
  refine (ka.out _ (hE.out.below hBp.out).1).mono ?_
  rintro e w2 ⟨rfl, hb⟩
  clear a1 a2 a3 a4 a5 a6 a7
  replace qa := Lib.hid (qa.out.below hb)
  replace qb := Lib.hid (qb.out.below hb)
  replace hB := Lib.hid (hBp.out.trans (hb.mono hBp.out.size))
  clear hb hBp
  obtain ⟨a1, a2, a3, a4, a5, a6⟩ := qa.out.facts
  have a7 := qa.out.lt
  go_wp2_with fail
  have hBp := hB
  refine (kva.out _ (hE.out.below hBp.out).1).mono ?_
  rintro e w3 ⟨rfl, hb⟩
  clear a1 a2 a3 a4 a5 a6 a7
  replace qa := Lib.hid (qa.out.below hb)
  replace qb := Lib.hid (qb.out.below hb)
  replace hB := Lib.hid (hBp.out.trans (hb.mono hBp.out.size))
  clear hb hBp
  obtain ⟨a1, a2, a3, a4, a5, a6⟩ := qa.out.facts
  have a7 := qa.out.lt
  obtain ⟨b1, b2, b3, b4, b5, b6⟩ := qb.out.facts
  have b7 := qb.out.lt
  go_wp2_with fail
  have hBp := hB
  refine (kb.out _ (hE.out.below hBp.out)).mono ?_
  rintro e w4 ⟨rfl, hb⟩
  clear a1 a2 a3 a4 a5 a6 a7 b1 b2 b3 b4 b5 b6 b7
  replace qa := Lib.hid (qa.out.below hb)
  replace qb := Lib.hid (qb.out.below hb)
  replace hB := Lib.hid (hBp.out.trans (hb.mono hBp.out.size))
  clear hb hBp
  obtain ⟨a1, a2, a3, a4, a5, a6⟩ := qa.out.facts
  have a7 := qa.out.lt
  obtain ⟨b1, b2, b3, b4, b5, b6⟩ := qb.out.facts
  have b7 := qb.out.lt
  go_wp2_with fail
  have hBp : Hid (Below w.heap.size w (w4.alloc (.cells #[.bool g1, .string n1, .string d1] 23))) := hB.out.alloc hB.out.size _
  refine (kc.out _ (hE.out.below hBp.out).1).mono ?_
  rintro e w5 ⟨rfl, hb⟩
  clear a1 a2 a3 a4 a5 a6 a7 b1 b2 b3 b4 b5 b6 b7
  replace qa := Lib.hid ((qa.out.alloc _).below hb)
  replace qb := Lib.hid ((qb.out.alloc _).below hb)
  have qback := Lib.hid ((B3.new w4 g1 n1 d1).below hb)
  replace hB := Lib.hid (hBp.out.trans (hb.mono hBp.out.size))
  clear hb hBp
  obtain ⟨a1, a2, a3, a4, a5, a6⟩ := qa.out.facts
  have a7 := qa.out.lt
  obtain ⟨b1, b2, b3, b4, b5, b6⟩ := qb.out.facts
  have b7 := qb.out.lt
  obtain ⟨back1, back2, back3, back4, back5, back6⟩ := qback.out.facts
  have back7 := qback.out.lt
  go_wp2_with fail
  have hBp := hB
  refine (kp.out _ (hE.out.below hBp.out)).mono ?_
  rintro e w6 ⟨rfl, hb⟩
  clear a1 a2 a3 a4 a5 a6 a7 b1 b2 b3 b4 b5 b6 b7 back1 back2 back3 back4 back5 back6 back7
  replace qa := Lib.hid (qa.out.below hb)
  replace qb := Lib.hid (qb.out.below hb)
  replace qback := Lib.hid (qback.out.below hb)
  replace hB := Lib.hid (hBp.out.trans (hb.mono hBp.out.size))
  clear hb hBp
  go_wp2
  go_ret
  exact ⟨rfl, hB.out.alloc hB.out.size _⟩

set_option maxRecDepth 100000 in
set_option maxHeartbeats 4000000 in
theorem rtexts_sf (g1 : Bool) (n1 d1 t : ByteArray) (sn1 : n1.size ≤ 300) (sd1 : d1.size ≤ 300) (ht : t.size ≤ 620) (hs : shortB 300 [(n1, d1), (n1, d1)] = true) (po : pok t = false) (va : validB g1 n1 d1 = true) (w : World) (hE : REnv w) :
    Calls Tryz.prog 8 #[.agg #[.bool g1, .string n1, .string d1], .agg #[.bool g1, .string n1, .string d1], .string t] w fun e w' => e = .returned (.bool true) ∧ Below w.heap.size w w' := by
  replace hE := Lib.hid hE
  have kp := fun W (h : REnv W) => Parse_any t W h (by omega)
  rw [po] at kp
  simp only [Bool.false_eq_true, if_false, zv] at kp
  clear po
  replace kp := Lib.hid kp
  have ka := fun W (h : Env W) => Text_good g1 n1 d1 W h (by omega) (by omega) va
  have kva := fun W (h : Env W) => Valid_any g1 n1 d1 W h (by omega) (by omega)
  rw [va] at kva
  have hps := parse_show va
  have zs := showV_size g1 n1 d1
  have kb := fun W (h : REnv W) => Parse_any (showV g1 n1 d1) W h (by omega)
  rw [hps.1, hps.2.1, hps.2.2.1, hps.2.2.2] at kb
  simp only [if_true] at kb
  clear hps zs va
  replace ka := Lib.hid ka
  replace kva := Lib.hid kva
  replace kb := Lib.hid kb
  have kc := ka
  generalize showV g1 n1 d1 = s at *
  replace hs := Lib.hid hs
  go_enter Tryz.func8, Tryz.ntmps8
  go_wp2_with fail
  refine (rhead_any _ (hE.out.below (duoW_below w g1 g1 n1 d1 n1 d1))).mono ?_
  rintro e w0 ⟨rfl, hb⟩
  obtain ⟨qa, qb⟩ := duoW_boxes w g1 g1 n1 d1 n1 d1
  replace qa := Lib.hid (qa.below hb)
  replace qb := Lib.hid (qb.below hb)
  have hB := Lib.hid ((duoW_below w g1 g1 n1 d1 n1 d1).trans (hb.mono (duoW_below w g1 g1 n1 d1 n1 d1).size))
  clear hb
  obtain ⟨a1, a2, a3, a4, a5, a6⟩ := qa.out.facts
  have a7 := qa.out.lt
  obtain ⟨b1, b2, b3, b4, b5, b6⟩ := qb.out.facts
  have b7 := qb.out.lt
  go_wp2_with fail
  refine (short_any 300 [(n1, d1), (n1, d1)] w0.heap.size 2 _ (by simp) (raws2 w0 g1 g1 n1 d1 n1 d1)).mono ?_
  rintro e wx ⟨rfl, rfl⟩
  rw [hs.out]
  clear a1 a2 a3 a4 a5 a6 a7 b1 b2 b3 b4 b5 b6 b7
  obtain ⟨w1, hw1⟩ : ∃ W, W = w0.alloc (.cells #[.bool g1, .string n1, .string d1, .bool g1, .string n1, .string d1] 23) := ⟨_, rfl⟩
  rw [← hw1]
  replace qa := qa.out
  replace qb := qb.out
  replace qa := qa.alloc (.cells #[.bool g1, .string n1, .string d1, .bool g1, .string n1, .string d1] 23)
  replace qb := qb.alloc (.cells #[.bool g1, .string n1, .string d1, .bool g1, .string n1, .string d1] 23)
  replace hB := Lib.hid (hB.out.alloc hB.out.size (.cells #[.bool g1, .string n1, .string d1, .bool g1, .string n1, .string d1] 23))
  rw [← hw1] at hB qa qb
  replace qa := Lib.hid qa
  replace qb := Lib.hid qb
  clear hw1
  obtain ⟨a1, a2, a3, a4, a5, a6⟩ := qa.out.facts
  have a7 := qa.out.lt
  go_wp2_with fail
  have hBp := hB
  refine (ka.out _ (hE.out.below hBp.out).1).mono ?_
  rintro e w2 ⟨rfl, hb⟩
  clear a1 a2 a3 a4 a5 a6 a7
  replace qa := Lib.hid (qa.out.below hb)
  replace qb := Lib.hid (qb.out.below hb)
  replace hB := Lib.hid (hBp.out.trans (hb.mono hBp.out.size))
  clear hb hBp
  obtain ⟨a1, a2, a3, a4, a5, a6⟩ := qa.out.facts
  have a7 := qa.out.lt
  go_wp2_with fail
  have hBp := hB
  refine (kva.out _ (hE.out.below hBp.out).1).mono ?_
  rintro e w3 ⟨rfl, hb⟩
  clear a1 a2 a3 a4 a5 a6 a7
  replace qa := Lib.hid (qa.out.below hb)
  replace qb := Lib.hid (qb.out.below hb)
  replace hB := Lib.hid (hBp.out.trans (hb.mono hBp.out.size))
  clear hb hBp
  obtain ⟨a1, a2, a3, a4, a5, a6⟩ := qa.out.facts
  have a7 := qa.out.lt
  obtain ⟨b1, b2, b3, b4, b5, b6⟩ := qb.out.facts
  have b7 := qb.out.lt
  go_wp2_with fail
  have hBp := hB
  refine (kb.out _ (hE.out.below hBp.out)).mono ?_
  rintro e w4 ⟨rfl, hb⟩
  clear a1 a2 a3 a4 a5 a6 a7 b1 b2 b3 b4 b5 b6 b7
  replace qa := Lib.hid (qa.out.below hb)
  replace qb := Lib.hid (qb.out.below hb)
  replace hB := Lib.hid (hBp.out.trans (hb.mono hBp.out.size))
  clear hb hBp
  obtain ⟨a1, a2, a3, a4, a5, a6⟩ := qa.out.facts
  have a7 := qa.out.lt
  obtain ⟨b1, b2, b3, b4, b5, b6⟩ := qb.out.facts
  have b7 := qb.out.lt
  go_wp2_with fail
  have hBp : Hid (Below w.heap.size w (w4.alloc (.cells #[.bool g1, .string n1, .string d1] 23))) := hB.out.alloc hB.out.size _
  refine (kc.out _ (hE.out.below hBp.out).1).mono ?_
  rintro e w5 ⟨rfl, hb⟩
  clear a1 a2 a3 a4 a5 a6 a7 b1 b2 b3 b4 b5 b6 b7
  replace qa := Lib.hid ((qa.out.alloc _).below hb)
  replace qb := Lib.hid ((qb.out.alloc _).below hb)
  have qback := Lib.hid ((B3.new w4 g1 n1 d1).below hb)
  replace hB := Lib.hid (hBp.out.trans (hb.mono hBp.out.size))
  clear hb hBp
  obtain ⟨a1, a2, a3, a4, a5, a6⟩ := qa.out.facts
  have a7 := qa.out.lt
  obtain ⟨b1, b2, b3, b4, b5, b6⟩ := qb.out.facts
  have b7 := qb.out.lt
  obtain ⟨back1, back2, back3, back4, back5, back6⟩ := qback.out.facts
  have back7 := qback.out.lt
  go_wp2_with fail
  have hBp := hB
  refine (kp.out _ (hE.out.below hBp.out)).mono ?_
  rintro e w6 ⟨rfl, hb⟩
  clear a1 a2 a3 a4 a5 a6 a7 b1 b2 b3 b4 b5 b6 b7 back1 back2 back3 back4 back5 back6 back7
  replace qa := Lib.hid (qa.out.below hb)
  replace qb := Lib.hid (qb.out.below hb)
  replace qback := Lib.hid (qback.out.below hb)
  replace hB := Lib.hid (hBp.out.trans (hb.mono hBp.out.size))
  clear hb hBp
  go_wp2
  go_ret
  exact ⟨rfl, hB.out.alloc hB.out.size _⟩

theorem rtexts_any (g1 g2 : Bool) (n1 d1 n2 d2 t : ByteArray) (w : World) (hE : REnv w) :
    Calls Tryz.prog 8 #[.agg #[.bool g1, .string n1, .string d1], .agg #[.bool g2, .string n2, .string d2], .string t] w fun e w' => e = .returned (.bool true) ∧ Below w.heap.size w w' := by
  cases hs : shortB 300 [(n1, d1), (n2, d2)] with
  | false => exact rtexts_bad0 g1 g2 n1 d1 n2 d2 t hs w hE
  | true =>
    rcases Nat.lt_or_ge 620 t.size with ht | ht
    · exact rtexts_bad1 g1 g2 n1 d1 n2 d2 t hs ht w hE
    · have h := hs
      simp only [shortB, List.all_cons, List.all_nil, Bool.and_true, Bool.and_eq_true, decide_eq_true_eq] at h
      obtain ⟨⟨h1, h2⟩, h3, h4⟩ := h
      cases va : validB g1 n1 d1 with
      | false =>
        cases po : pok t with
        | false => exact rtexts_af g1 g2 n1 d1 n2 d2 t h1 h2 h3 h4 ht hs po va w hE
        | true => exact rtexts_at g1 g2 n1 d1 n2 d2 t h1 h2 h3 h4 ht hs po va w hE
      | true =>
        cases vb : validB g2 n2 d2 with
        | false =>
          cases po : pok t with
          | false => exact rtexts_nf g1 g2 n1 d1 n2 d2 t h1 h2 h3 h4 ht hs po va vb w hE
          | true => exact rtexts_nt g1 g2 n1 d1 n2 d2 t h1 h2 h3 h4 ht hs po va vb w hE
        | true =>
          cases st : ((showV g1 n1 d1).toList == (showV g2 n2 d2).toList) with
          | false =>
            cases po : pok t with
            | false => exact rtexts_df g1 g2 n1 d1 n2 d2 t h1 h2 h3 h4 ht hs po va vb st w hE
            | true => exact rtexts_dt g1 g2 n1 d1 n2 d2 t h1 h2 h3 h4 ht hs po va vb st w hE
          | true =>
            have e : showV g1 n1 d1 = showV g2 n2 d2 := by
              apply ba_ext
              have := beq_iff_eq.1 st
              rwa [Lib.toList_data, Lib.toList_data] at this
            have p1 := (parse_show va).2
            have p2 := (parse_show vb).2
            rw [e] at p1
            obtain rfl : g1 = g2 := p1.1.symm.trans p2.1
            obtain rfl : n1 = n2 := p1.2.1.symm.trans p2.2.1
            obtain rfl : d1 = d2 := p1.2.2.symm.trans p2.2.2
            cases po : pok t with
            | false => exact rtexts_sf g1 n1 d1 t h1 h2 ht hs po va w hE
            | true => exact rtexts_st g1 n1 d1 t h1 h2 ht hs po va w hE

end Nt
end Go.Proofs.YtjahnkeafaebdaaGreatDoor

