/- RatioOrder: the walks. -/
import Derived.Test.YtjahnkeafaebdaaGreatDoorLawROrderS
namespace Go.Proofs.YtjahnkeafaebdaaGreatDoor
open Go.RowKit Go.Shelf
namespace Nt

set_option maxRecDepth 100000 in
set_option maxHeartbeats 4000000 in
theorem rorder_gt_x_z_good (a b c : Rat) (Oa : OkQ a) (Ob : OkQ b) (Oc : OkQ c) (Da : Dg 40 a) (Db : Dg 40 b) (Dc : Dg 40 c) (zz ww : Int) (cab : cmpQ a b = 1) (cba : cmpQ b a = (-1)) (cbc : cmpQ b c = zz) (cac : cmpQ a c = ww) (cpq : cmpQ (a + c) (b + c) = 1) (same : a ≠ b) (neg : decide (c.num < 0) = false) (zer : ((T (some c.num.natAbs)).toList == [48]) = true) (w : World) (hE : REnv w) (hs : shortB 40 [((T (some a.num.natAbs)), (T (some a.den))), ((T (some b.num.natAbs)), (T (some b.den))), ((T (some c.num.natAbs)), (T (some c.den)))] = true) :
    Calls Tryz.prog 6 #[qv a, qv b, qv c] w fun e w' => e = .returned (.bool true) ∧ Below w.heap.size w w' := by
  have Va := Lib.hid (valid_qv Oa)
  have za := size_of_valid Va.out
  have Vb := Lib.hid (valid_qv Ob)
  have zb := size_of_valid Vb.out
  have Vc := Lib.hid (valid_qv Oc)
  have zc := size_of_valid Vc.out
  replace hE := Lib.hid hE
  replace hs := Lib.hid hs
  obtain ⟨p, hp⟩ : ∃ r, r = a + c := ⟨_, rfl⟩
  have Dp : Dg 81 p := by rw [hp]; exact Da.add Dc
  obtain ⟨q, hq⟩ : ∃ r, r = b + c := ⟨_, rfl⟩
  have Dq : Dg 81 q := by rw [hq]; exact Db.add Dc
  obtain ⟨m, hm⟩ : ∃ r, r = a * c := ⟨_, rfl⟩
  have Dm : Dg 80 m := by rw [hm]; exact Da.mul Dc
  obtain ⟨n, hn⟩ : ∃ r, r = b * c := ⟨_, rfl⟩
  have Dn : Dg 80 n := by rw [hn]; exact Db.mul Dc
  rw [← hp, ← hq] at cpq
  replace same := Lib.hid same
  replace neg := Lib.hid neg
  replace zer := Lib.hid zer
  have kc1 := fun W (h : Env W) => Compare_short a b (Da.short (by omega)) (Db.short (by omega)) W h
  rw [cab] at kc1
  simp only [qv] at kc1
  replace kc1 := Lib.hid kc1
  have kc2 := fun W (h : Env W) => Compare_short b a (Db.short (by omega)) (Da.short (by omega)) W h
  rw [cba] at kc2
  simp only [qv] at kc2
  replace kc2 := Lib.hid kc2
  have kc3 := fun W (h : Env W) => Compare_short b c (Db.short (by omega)) (Dc.short (by omega)) W h
  rw [cbc] at kc3
  simp only [qv] at kc3
  replace kc3 := Lib.hid kc3
  have kc4 := fun W (h : Env W) => Compare_short a c (Da.short (by omega)) (Dc.short (by omega)) W h
  rw [cac] at kc4
  simp only [qv] at kc4
  replace kc4 := Lib.hid kc4
  have kc5 := fun W (h : Env W) => Add_short a c (Da.short (by omega)) (Dc.short (by omega)) W h
  rw [← hp] at kc5
  simp only [qv] at kc5
  replace kc5 := Lib.hid kc5
  have kc6 := fun W (h : Env W) => Add_short b c (Db.short (by omega)) (Dc.short (by omega)) W h
  rw [← hq] at kc6
  simp only [qv] at kc6
  replace kc6 := Lib.hid kc6
  have kc7 := fun W (h : Env W) => Compare_short p q (Dp.short (by omega)) (Dq.short (by omega)) W h
  rw [cpq] at kc7
  simp only [qv] at kc7
  replace kc7 := Lib.hid kc7
  clear hp hq hm hn Dp Dq Dm Dn cab cba cbc cac cpq
  clear Oa Ob Oc Da Db Dc
  simp only [qv]
  go_enter Tryz.func6, Tryz.ntmps6
  go_wp2_with fail
  refine (rhead_any _ (hE.out.below (triW_below w (decide (a.num < 0)) (decide (b.num < 0)) (decide (c.num < 0)) (T (some a.num.natAbs)) (T (some a.den)) (T (some b.num.natAbs)) (T (some b.den)) (T (some c.num.natAbs)) (T (some c.den))))).mono ?_
  rintro e w0 ⟨rfl, hb⟩
  obtain ⟨qa, qb, qc⟩ := triW_boxes w (decide (a.num < 0)) (decide (b.num < 0)) (decide (c.num < 0)) (T (some a.num.natAbs)) (T (some a.den)) (T (some b.num.natAbs)) (T (some b.den)) (T (some c.num.natAbs)) (T (some c.den))
  replace qa := Lib.hid (qa.below hb)
  replace qb := Lib.hid (qb.below hb)
  replace qc := Lib.hid (qc.below hb)
  have hB := Lib.hid ((triW_below w (decide (a.num < 0)) (decide (b.num < 0)) (decide (c.num < 0)) (T (some a.num.natAbs)) (T (some a.den)) (T (some b.num.natAbs)) (T (some b.den)) (T (some c.num.natAbs)) (T (some c.den))).trans (hb.mono (triW_below w (decide (a.num < 0)) (decide (b.num < 0)) (decide (c.num < 0)) (T (some a.num.natAbs)) (T (some a.den)) (T (some b.num.natAbs)) (T (some b.den)) (T (some c.num.natAbs)) (T (some c.den))).size))
  clear hb
  obtain ⟨a1, a2, a3, a4, a5, a6⟩ := qa.out.facts
  have a7 := qa.out.lt
  obtain ⟨b1, b2, b3, b4, b5, b6⟩ := qb.out.facts
  have b7 := qb.out.lt
  obtain ⟨c1, c2, c3, c4, c5, c6⟩ := qc.out.facts
  have c7 := qc.out.lt
  go_wp2_with fail
  refine (short_any 40 [((T (some a.num.natAbs)), (T (some a.den))), ((T (some b.num.natAbs)), (T (some b.den))), ((T (some c.num.natAbs)), (T (some c.den)))] w0.heap.size 3 _ (by simp) (raws3 w0 (decide (a.num < 0)) (decide (b.num < 0)) (decide (c.num < 0)) (T (some a.num.natAbs)) (T (some a.den)) (T (some b.num.natAbs)) (T (some b.den)) (T (some c.num.natAbs)) (T (some c.den)))).mono ?_
  rintro e w1 ⟨rfl, rfl⟩
  rw [hs.out]
  obtain ⟨w1, hw1⟩ : ∃ W, W = w0.alloc (.cells #[.bool (decide (a.num < 0)), .string (T (some a.num.natAbs)), .string (T (some a.den)), .bool (decide (b.num < 0)), .string (T (some b.num.natAbs)), .string (T (some b.den)), .bool (decide (c.num < 0)), .string (T (some c.num.natAbs)), .string (T (some c.den))] 23) := ⟨_, rfl⟩
  rw [← hw1]
  clear a1 a2 a3 a4 a5 a6 a7 b1 b2 b3 b4 b5 b6 b7 c1 c2 c3 c4 c5 c6 c7
  replace qa : Hid (B3 w1 w.heap.size (decide (a.num < 0)) (T (some a.num.natAbs)) (T (some a.den))) := by rw [hw1]; exact qa.out.alloc _
  replace qb : Hid (B3 w1 (w.heap.size + 1) (decide (b.num < 0)) (T (some b.num.natAbs)) (T (some b.den))) := by rw [hw1]; exact qb.out.alloc _
  replace qc : Hid (B3 w1 (w.heap.size + 1 + 1) (decide (c.num < 0)) (T (some c.num.natAbs)) (T (some c.den))) := by rw [hw1]; exact qc.out.alloc _
  replace hB : Hid (Below w.heap.size w w1) := by rw [hw1]; exact hB.out.alloc hB.out.size _
  clear hw1
  obtain ⟨a1, a2, a3, a4, a5, a6⟩ := qa.out.facts
  have a7 := qa.out.lt
  obtain ⟨b1, b2, b3, b4, b5, b6⟩ := qb.out.facts
  have b7 := qb.out.lt
  obtain ⟨c1, c2, c3, c4, c5, c6⟩ := qc.out.facts
  have c7 := qc.out.lt
  go_wp2_with fail
  have hBp := hB
  refine (Valid_any (decide (a.num < 0)) (T (some a.num.natAbs)) (T (some a.den)) _ (hE.out.below hBp.out).1 (by omega) (by omega)).mono ?_
  rintro e w2 ⟨rfl, hb⟩
  rw [Va.out]
  clear a1 a2 a3 a4 a5 a6 a7 b1 b2 b3 b4 b5 b6 b7 c1 c2 c3 c4 c5 c6 c7
  replace qa := Lib.hid (qa.out.below hb)
  replace qb := Lib.hid (qb.out.below hb)
  replace qc := Lib.hid (qc.out.below hb)
  replace hB := Lib.hid (hBp.out.trans (hb.mono hBp.out.size))
  clear hb hBp
  obtain ⟨a1, a2, a3, a4, a5, a6⟩ := qa.out.facts
  have a7 := qa.out.lt
  obtain ⟨b1, b2, b3, b4, b5, b6⟩ := qb.out.facts
  have b7 := qb.out.lt
  obtain ⟨c1, c2, c3, c4, c5, c6⟩ := qc.out.facts
  have c7 := qc.out.lt
  go_wp2_with fail
  have hBp := hB
  refine (Valid_any (decide (b.num < 0)) (T (some b.num.natAbs)) (T (some b.den)) _ (hE.out.below hBp.out).1 (by omega) (by omega)).mono ?_
  rintro e w3 ⟨rfl, hb⟩
  rw [Vb.out]
  clear a1 a2 a3 a4 a5 a6 a7 b1 b2 b3 b4 b5 b6 b7 c1 c2 c3 c4 c5 c6 c7
  replace qa := Lib.hid (qa.out.below hb)
  replace qb := Lib.hid (qb.out.below hb)
  replace qc := Lib.hid (qc.out.below hb)
  replace hB := Lib.hid (hBp.out.trans (hb.mono hBp.out.size))
  clear hb hBp
  obtain ⟨a1, a2, a3, a4, a5, a6⟩ := qa.out.facts
  have a7 := qa.out.lt
  obtain ⟨b1, b2, b3, b4, b5, b6⟩ := qb.out.facts
  have b7 := qb.out.lt
  obtain ⟨c1, c2, c3, c4, c5, c6⟩ := qc.out.facts
  have c7 := qc.out.lt
  go_wp2_with fail
  have hBp := hB
  refine (Valid_any (decide (c.num < 0)) (T (some c.num.natAbs)) (T (some c.den)) _ (hE.out.below hBp.out).1 (by omega) (by omega)).mono ?_
  rintro e w4 ⟨rfl, hb⟩
  rw [Vc.out]
  clear a1 a2 a3 a4 a5 a6 a7 b1 b2 b3 b4 b5 b6 b7 c1 c2 c3 c4 c5 c6 c7
  replace qa := Lib.hid (qa.out.below hb)
  replace qb := Lib.hid (qb.out.below hb)
  replace qc := Lib.hid (qc.out.below hb)
  replace hB := Lib.hid (hBp.out.trans (hb.mono hBp.out.size))
  clear hb hBp
  obtain ⟨a1, a2, a3, a4, a5, a6⟩ := qa.out.facts
  have a7 := qa.out.lt
  obtain ⟨b1, b2, b3, b4, b5, b6⟩ := qb.out.facts
  have b7 := qb.out.lt
  obtain ⟨c1, c2, c3, c4, c5, c6⟩ := qc.out.facts
  have c7 := qc.out.lt
  go_wp2_with fail
  have hBp := hB
  refine (kc1.out _ (hE.out.below hBp.out).1).mono ?_
  rintro e w5 ⟨rfl, hb⟩
  clear a1 a2 a3 a4 a5 a6 a7 b1 b2 b3 b4 b5 b6 b7 c1 c2 c3 c4 c5 c6 c7
  replace qa := Lib.hid (qa.out.below hb)
  replace qb := Lib.hid (qb.out.below hb)
  replace qc := Lib.hid (qc.out.below hb)
  replace hB := Lib.hid (hBp.out.trans (hb.mono hBp.out.size))
  clear hb hBp
  obtain ⟨a1, a2, a3, a4, a5, a6⟩ := qa.out.facts
  have a7 := qa.out.lt
  obtain ⟨b1, b2, b3, b4, b5, b6⟩ := qb.out.facts
  have b7 := qb.out.lt
  go_wp2_with fail
  have hBp := hB
  refine (kc2.out _ (hE.out.below hBp.out).1).mono ?_
  rintro e w6 ⟨rfl, hb⟩
  clear a1 a2 a3 a4 a5 a6 a7 b1 b2 b3 b4 b5 b6 b7
  replace qa := Lib.hid (qa.out.below hb)
  replace qb := Lib.hid (qb.out.below hb)
  replace qc := Lib.hid (qc.out.below hb)
  replace hB := Lib.hid (hBp.out.trans (hb.mono hBp.out.size))
  clear hb hBp
  obtain ⟨b1, b2, b3, b4, b5, b6⟩ := qb.out.facts
  have b7 := qb.out.lt
  obtain ⟨c1, c2, c3, c4, c5, c6⟩ := qc.out.facts
  have c7 := qc.out.lt
  go_wp2_with fail
  have hBp := hB
  refine (kc3.out _ (hE.out.below hBp.out).1).mono ?_
  rintro e w7 ⟨rfl, hb⟩
  clear b1 b2 b3 b4 b5 b6 b7 c1 c2 c3 c4 c5 c6 c7
  replace qa := Lib.hid (qa.out.below hb)
  replace qb := Lib.hid (qb.out.below hb)
  replace qc := Lib.hid (qc.out.below hb)
  replace hB := Lib.hid (hBp.out.trans (hb.mono hBp.out.size))
  clear hb hBp
  obtain ⟨a1, a2, a3, a4, a5, a6⟩ := qa.out.facts
  have a7 := qa.out.lt
  obtain ⟨c1, c2, c3, c4, c5, c6⟩ := qc.out.facts
  have c7 := qc.out.lt
  go_wp2_with fail
  have hBp := hB
  refine (kc4.out _ (hE.out.below hBp.out).1).mono ?_
  rintro e w8 ⟨rfl, hb⟩
  clear a1 a2 a3 a4 a5 a6 a7 c1 c2 c3 c4 c5 c6 c7
  replace qa := Lib.hid (qa.out.below hb)
  replace qb := Lib.hid (qb.out.below hb)
  replace qc := Lib.hid (qc.out.below hb)
  replace hB := Lib.hid (hBp.out.trans (hb.mono hBp.out.size))
  clear hb hBp
  obtain ⟨a1, a2, a3, a4, a5, a6⟩ := qa.out.facts
  have a7 := qa.out.lt
  obtain ⟨c1, c2, c3, c4, c5, c6⟩ := qc.out.facts
  have c7 := qc.out.lt
  go_wp2_with fail
  have hBp := hB
  refine (kc5.out _ (hE.out.below hBp.out).1).mono ?_
  rintro e w9 ⟨rfl, hb⟩
  clear a1 a2 a3 a4 a5 a6 a7 c1 c2 c3 c4 c5 c6 c7
  replace qa := Lib.hid (qa.out.below hb)
  replace qb := Lib.hid (qb.out.below hb)
  replace qc := Lib.hid (qc.out.below hb)
  replace hB := Lib.hid (hBp.out.trans (hb.mono hBp.out.size))
  clear hb hBp
  obtain ⟨b1, b2, b3, b4, b5, b6⟩ := qb.out.facts
  have b7 := qb.out.lt
  obtain ⟨c1, c2, c3, c4, c5, c6⟩ := qc.out.facts
  have c7 := qc.out.lt
  go_wp2_with fail
  have hBp : Hid (Below w.heap.size w (w9.alloc (.cells #[.bool (decide (p.num < 0)), .string (T (some p.num.natAbs)), .string (T (some p.den))] 23))) := hB.out.alloc hB.out.size _
  refine (kc6.out _ (hE.out.below hBp.out).1).mono ?_
  rintro e w10 ⟨rfl, hb⟩
  clear b1 b2 b3 b4 b5 b6 b7 c1 c2 c3 c4 c5 c6 c7
  replace qa := Lib.hid ((qa.out.alloc _).below hb)
  replace qb := Lib.hid ((qb.out.alloc _).below hb)
  replace qc := Lib.hid ((qc.out.alloc _).below hb)
  have qp := Lib.hid ((B3.new w9 (decide (p.num < 0)) (T (some p.num.natAbs)) (T (some p.den))).below hb)
  replace hB := Lib.hid (hBp.out.trans (hb.mono hBp.out.size))
  clear hb hBp
  obtain ⟨p1, p2, p3, p4, p5, p6⟩ := qp.out.facts
  have p7 := qp.out.lt
  go_wp2_with fail
  have hBp : Hid (Below w.heap.size w (w10.alloc (.cells #[.bool (decide (q.num < 0)), .string (T (some q.num.natAbs)), .string (T (some q.den))] 23))) := hB.out.alloc hB.out.size _
  refine (kc7.out _ (hE.out.below hBp.out).1).mono ?_
  rintro e w11 ⟨rfl, hb⟩
  clear p1 p2 p3 p4 p5 p6 p7
  replace qa := Lib.hid ((qa.out.alloc _).below hb)
  replace qb := Lib.hid ((qb.out.alloc _).below hb)
  replace qc := Lib.hid ((qc.out.alloc _).below hb)
  replace qp := Lib.hid ((qp.out.alloc _).below hb)
  have qq := Lib.hid ((B3.new w10 (decide (q.num < 0)) (T (some q.num.natAbs)) (T (some q.den))).below hb)
  replace hB := Lib.hid (hBp.out.trans (hb.mono hBp.out.size))
  clear hb hBp
  obtain ⟨a1, a2, a3, a4, a5, a6⟩ := qa.out.facts
  have a7 := qa.out.lt
  obtain ⟨b1, b2, b3, b4, b5, b6⟩ := qb.out.facts
  have b7 := qb.out.lt
  obtain ⟨c1, c2, c3, c4, c5, c6⟩ := qc.out.facts
  have c7 := qc.out.lt
  replace neg := neg.out
  replace zer := zer.out
  go_wp2
  all_goals first | (exact absurd (qv_same (by assumption) (by assumption) (by assumption)) same.out) | (exact absurd (same_g same.out) (by assumption)) | (exact absurd (same_n same.out) (by assumption)) | (exact absurd (same_d same.out) (by assumption)) | (go_ret; exact ⟨rfl, hB.out⟩)

set_option maxRecDepth 100000 in
set_option maxHeartbeats 4000000 in
theorem rorder_eq_f_z_good (a b c : Rat) (Oa : OkQ a) (Ob : OkQ b) (Oc : OkQ c) (Da : Dg 40 a) (Db : Dg 40 b) (Dc : Dg 40 c) (zz ww : Int) (cab : cmpQ a b = 0) (cba : cmpQ b a = 0) (cbc : cmpQ b c = zz) (cac : cmpQ a c = ww) (cpq : cmpQ (a + c) (b + c) = 0) (same : a = b) (zle : decide (zz ≤ 0) = false) (neg : decide (c.num < 0) = false) (zer : ((T (some c.num.natAbs)).toList == [48]) = true) (w : World) (hE : REnv w) (hs : shortB 40 [((T (some a.num.natAbs)), (T (some a.den))), ((T (some b.num.natAbs)), (T (some b.den))), ((T (some c.num.natAbs)), (T (some c.den)))] = true) :
    Calls Tryz.prog 6 #[qv a, qv b, qv c] w fun e w' => e = .returned (.bool true) ∧ Below w.heap.size w w' := by
  have Va := Lib.hid (valid_qv Oa)
  have za := size_of_valid Va.out
  have Vb := Lib.hid (valid_qv Ob)
  have zb := size_of_valid Vb.out
  have Vc := Lib.hid (valid_qv Oc)
  have zc := size_of_valid Vc.out
  replace hE := Lib.hid hE
  replace hs := Lib.hid hs
  obtain ⟨p, hp⟩ : ∃ r, r = a + c := ⟨_, rfl⟩
  have Dp : Dg 81 p := by rw [hp]; exact Da.add Dc
  obtain ⟨q, hq⟩ : ∃ r, r = b + c := ⟨_, rfl⟩
  have Dq : Dg 81 q := by rw [hq]; exact Db.add Dc
  obtain ⟨m, hm⟩ : ∃ r, r = a * c := ⟨_, rfl⟩
  have Dm : Dg 80 m := by rw [hm]; exact Da.mul Dc
  obtain ⟨n, hn⟩ : ∃ r, r = b * c := ⟨_, rfl⟩
  have Dn : Dg 80 n := by rw [hn]; exact Db.mul Dc
  rw [← hp, ← hq] at cpq
  replace same := Lib.hid same
  replace zle := Lib.hid zle
  replace neg := Lib.hid neg
  replace zer := Lib.hid zer
  have kc1 := fun W (h : Env W) => Compare_short a b (Da.short (by omega)) (Db.short (by omega)) W h
  rw [cab] at kc1
  simp only [qv] at kc1
  replace kc1 := Lib.hid kc1
  have kc2 := fun W (h : Env W) => Compare_short b a (Db.short (by omega)) (Da.short (by omega)) W h
  rw [cba] at kc2
  simp only [qv] at kc2
  replace kc2 := Lib.hid kc2
  have kc3 := fun W (h : Env W) => Compare_short b c (Db.short (by omega)) (Dc.short (by omega)) W h
  rw [cbc] at kc3
  simp only [qv] at kc3
  replace kc3 := Lib.hid kc3
  have kc4 := fun W (h : Env W) => Compare_short a c (Da.short (by omega)) (Dc.short (by omega)) W h
  rw [cac] at kc4
  simp only [qv] at kc4
  replace kc4 := Lib.hid kc4
  have kc5 := fun W (h : Env W) => Add_short a c (Da.short (by omega)) (Dc.short (by omega)) W h
  rw [← hp] at kc5
  simp only [qv] at kc5
  replace kc5 := Lib.hid kc5
  have kc6 := fun W (h : Env W) => Add_short b c (Db.short (by omega)) (Dc.short (by omega)) W h
  rw [← hq] at kc6
  simp only [qv] at kc6
  replace kc6 := Lib.hid kc6
  have kc7 := fun W (h : Env W) => Compare_short p q (Dp.short (by omega)) (Dq.short (by omega)) W h
  rw [cpq] at kc7
  simp only [qv] at kc7
  replace kc7 := Lib.hid kc7
  clear hp hq hm hn Dp Dq Dm Dn cab cba cbc cac cpq
  clear Oa Ob Oc Da Db Dc
  simp only [qv]
  go_enter Tryz.func6, Tryz.ntmps6
  go_wp2_with fail
  refine (rhead_any _ (hE.out.below (triW_below w (decide (a.num < 0)) (decide (b.num < 0)) (decide (c.num < 0)) (T (some a.num.natAbs)) (T (some a.den)) (T (some b.num.natAbs)) (T (some b.den)) (T (some c.num.natAbs)) (T (some c.den))))).mono ?_
  rintro e w0 ⟨rfl, hb⟩
  obtain ⟨qa, qb, qc⟩ := triW_boxes w (decide (a.num < 0)) (decide (b.num < 0)) (decide (c.num < 0)) (T (some a.num.natAbs)) (T (some a.den)) (T (some b.num.natAbs)) (T (some b.den)) (T (some c.num.natAbs)) (T (some c.den))
  replace qa := Lib.hid (qa.below hb)
  replace qb := Lib.hid (qb.below hb)
  replace qc := Lib.hid (qc.below hb)
  have hB := Lib.hid ((triW_below w (decide (a.num < 0)) (decide (b.num < 0)) (decide (c.num < 0)) (T (some a.num.natAbs)) (T (some a.den)) (T (some b.num.natAbs)) (T (some b.den)) (T (some c.num.natAbs)) (T (some c.den))).trans (hb.mono (triW_below w (decide (a.num < 0)) (decide (b.num < 0)) (decide (c.num < 0)) (T (some a.num.natAbs)) (T (some a.den)) (T (some b.num.natAbs)) (T (some b.den)) (T (some c.num.natAbs)) (T (some c.den))).size))
  clear hb
  obtain ⟨a1, a2, a3, a4, a5, a6⟩ := qa.out.facts
  have a7 := qa.out.lt
  obtain ⟨b1, b2, b3, b4, b5, b6⟩ := qb.out.facts
  have b7 := qb.out.lt
  obtain ⟨c1, c2, c3, c4, c5, c6⟩ := qc.out.facts
  have c7 := qc.out.lt
  go_wp2_with fail
  refine (short_any 40 [((T (some a.num.natAbs)), (T (some a.den))), ((T (some b.num.natAbs)), (T (some b.den))), ((T (some c.num.natAbs)), (T (some c.den)))] w0.heap.size 3 _ (by simp) (raws3 w0 (decide (a.num < 0)) (decide (b.num < 0)) (decide (c.num < 0)) (T (some a.num.natAbs)) (T (some a.den)) (T (some b.num.natAbs)) (T (some b.den)) (T (some c.num.natAbs)) (T (some c.den)))).mono ?_
  rintro e w1 ⟨rfl, rfl⟩
  rw [hs.out]
  obtain ⟨w1, hw1⟩ : ∃ W, W = w0.alloc (.cells #[.bool (decide (a.num < 0)), .string (T (some a.num.natAbs)), .string (T (some a.den)), .bool (decide (b.num < 0)), .string (T (some b.num.natAbs)), .string (T (some b.den)), .bool (decide (c.num < 0)), .string (T (some c.num.natAbs)), .string (T (some c.den))] 23) := ⟨_, rfl⟩
  rw [← hw1]
  clear a1 a2 a3 a4 a5 a6 a7 b1 b2 b3 b4 b5 b6 b7 c1 c2 c3 c4 c5 c6 c7
  replace qa : Hid (B3 w1 w.heap.size (decide (a.num < 0)) (T (some a.num.natAbs)) (T (some a.den))) := by rw [hw1]; exact qa.out.alloc _
  replace qb : Hid (B3 w1 (w.heap.size + 1) (decide (b.num < 0)) (T (some b.num.natAbs)) (T (some b.den))) := by rw [hw1]; exact qb.out.alloc _
  replace qc : Hid (B3 w1 (w.heap.size + 1 + 1) (decide (c.num < 0)) (T (some c.num.natAbs)) (T (some c.den))) := by rw [hw1]; exact qc.out.alloc _
  replace hB : Hid (Below w.heap.size w w1) := by rw [hw1]; exact hB.out.alloc hB.out.size _
  clear hw1
  obtain ⟨a1, a2, a3, a4, a5, a6⟩ := qa.out.facts
  have a7 := qa.out.lt
  obtain ⟨b1, b2, b3, b4, b5, b6⟩ := qb.out.facts
  have b7 := qb.out.lt
  obtain ⟨c1, c2, c3, c4, c5, c6⟩ := qc.out.facts
  have c7 := qc.out.lt
  go_wp2_with fail
  have hBp := hB
  refine (Valid_any (decide (a.num < 0)) (T (some a.num.natAbs)) (T (some a.den)) _ (hE.out.below hBp.out).1 (by omega) (by omega)).mono ?_
  rintro e w2 ⟨rfl, hb⟩
  rw [Va.out]
  clear a1 a2 a3 a4 a5 a6 a7 b1 b2 b3 b4 b5 b6 b7 c1 c2 c3 c4 c5 c6 c7
  replace qa := Lib.hid (qa.out.below hb)
  replace qb := Lib.hid (qb.out.below hb)
  replace qc := Lib.hid (qc.out.below hb)
  replace hB := Lib.hid (hBp.out.trans (hb.mono hBp.out.size))
  clear hb hBp
  obtain ⟨a1, a2, a3, a4, a5, a6⟩ := qa.out.facts
  have a7 := qa.out.lt
  obtain ⟨b1, b2, b3, b4, b5, b6⟩ := qb.out.facts
  have b7 := qb.out.lt
  obtain ⟨c1, c2, c3, c4, c5, c6⟩ := qc.out.facts
  have c7 := qc.out.lt
  go_wp2_with fail
  have hBp := hB
  refine (Valid_any (decide (b.num < 0)) (T (some b.num.natAbs)) (T (some b.den)) _ (hE.out.below hBp.out).1 (by omega) (by omega)).mono ?_
  rintro e w3 ⟨rfl, hb⟩
  rw [Vb.out]
  clear a1 a2 a3 a4 a5 a6 a7 b1 b2 b3 b4 b5 b6 b7 c1 c2 c3 c4 c5 c6 c7
  replace qa := Lib.hid (qa.out.below hb)
  replace qb := Lib.hid (qb.out.below hb)
  replace qc := Lib.hid (qc.out.below hb)
  replace hB := Lib.hid (hBp.out.trans (hb.mono hBp.out.size))
  clear hb hBp
  obtain ⟨a1, a2, a3, a4, a5, a6⟩ := qa.out.facts
  have a7 := qa.out.lt
  obtain ⟨b1, b2, b3, b4, b5, b6⟩ := qb.out.facts
  have b7 := qb.out.lt
  obtain ⟨c1, c2, c3, c4, c5, c6⟩ := qc.out.facts
  have c7 := qc.out.lt
  go_wp2_with fail
  have hBp := hB
  refine (Valid_any (decide (c.num < 0)) (T (some c.num.natAbs)) (T (some c.den)) _ (hE.out.below hBp.out).1 (by omega) (by omega)).mono ?_
  rintro e w4 ⟨rfl, hb⟩
  rw [Vc.out]
  clear a1 a2 a3 a4 a5 a6 a7 b1 b2 b3 b4 b5 b6 b7 c1 c2 c3 c4 c5 c6 c7
  replace qa := Lib.hid (qa.out.below hb)
  replace qb := Lib.hid (qb.out.below hb)
  replace qc := Lib.hid (qc.out.below hb)
  replace hB := Lib.hid (hBp.out.trans (hb.mono hBp.out.size))
  clear hb hBp
  obtain ⟨a1, a2, a3, a4, a5, a6⟩ := qa.out.facts
  have a7 := qa.out.lt
  obtain ⟨b1, b2, b3, b4, b5, b6⟩ := qb.out.facts
  have b7 := qb.out.lt
  obtain ⟨c1, c2, c3, c4, c5, c6⟩ := qc.out.facts
  have c7 := qc.out.lt
  go_wp2_with fail
  have hBp := hB
  refine (kc1.out _ (hE.out.below hBp.out).1).mono ?_
  rintro e w5 ⟨rfl, hb⟩
  clear a1 a2 a3 a4 a5 a6 a7 b1 b2 b3 b4 b5 b6 b7 c1 c2 c3 c4 c5 c6 c7
  replace qa := Lib.hid (qa.out.below hb)
  replace qb := Lib.hid (qb.out.below hb)
  replace qc := Lib.hid (qc.out.below hb)
  replace hB := Lib.hid (hBp.out.trans (hb.mono hBp.out.size))
  clear hb hBp
  obtain ⟨a1, a2, a3, a4, a5, a6⟩ := qa.out.facts
  have a7 := qa.out.lt
  obtain ⟨b1, b2, b3, b4, b5, b6⟩ := qb.out.facts
  have b7 := qb.out.lt
  go_wp2_with fail
  have hBp := hB
  refine (kc2.out _ (hE.out.below hBp.out).1).mono ?_
  rintro e w6 ⟨rfl, hb⟩
  clear a1 a2 a3 a4 a5 a6 a7 b1 b2 b3 b4 b5 b6 b7
  replace qa := Lib.hid (qa.out.below hb)
  replace qb := Lib.hid (qb.out.below hb)
  replace qc := Lib.hid (qc.out.below hb)
  replace hB := Lib.hid (hBp.out.trans (hb.mono hBp.out.size))
  clear hb hBp
  obtain ⟨b1, b2, b3, b4, b5, b6⟩ := qb.out.facts
  have b7 := qb.out.lt
  obtain ⟨c1, c2, c3, c4, c5, c6⟩ := qc.out.facts
  have c7 := qc.out.lt
  go_wp2_with fail
  have hBp := hB
  refine (kc3.out _ (hE.out.below hBp.out).1).mono ?_
  rintro e w7 ⟨rfl, hb⟩
  clear b1 b2 b3 b4 b5 b6 b7 c1 c2 c3 c4 c5 c6 c7
  replace qa := Lib.hid (qa.out.below hb)
  replace qb := Lib.hid (qb.out.below hb)
  replace qc := Lib.hid (qc.out.below hb)
  replace hB := Lib.hid (hBp.out.trans (hb.mono hBp.out.size))
  clear hb hBp
  obtain ⟨a1, a2, a3, a4, a5, a6⟩ := qa.out.facts
  have a7 := qa.out.lt
  obtain ⟨c1, c2, c3, c4, c5, c6⟩ := qc.out.facts
  have c7 := qc.out.lt
  go_wp2_with fail
  have hBp := hB
  refine (kc4.out _ (hE.out.below hBp.out).1).mono ?_
  rintro e w8 ⟨rfl, hb⟩
  clear a1 a2 a3 a4 a5 a6 a7 c1 c2 c3 c4 c5 c6 c7
  replace qa := Lib.hid (qa.out.below hb)
  replace qb := Lib.hid (qb.out.below hb)
  replace qc := Lib.hid (qc.out.below hb)
  replace hB := Lib.hid (hBp.out.trans (hb.mono hBp.out.size))
  clear hb hBp
  obtain ⟨a1, a2, a3, a4, a5, a6⟩ := qa.out.facts
  have a7 := qa.out.lt
  obtain ⟨c1, c2, c3, c4, c5, c6⟩ := qc.out.facts
  have c7 := qc.out.lt
  go_wp2_with fail
  have hBp := hB
  refine (kc5.out _ (hE.out.below hBp.out).1).mono ?_
  rintro e w9 ⟨rfl, hb⟩
  clear a1 a2 a3 a4 a5 a6 a7 c1 c2 c3 c4 c5 c6 c7
  replace qa := Lib.hid (qa.out.below hb)
  replace qb := Lib.hid (qb.out.below hb)
  replace qc := Lib.hid (qc.out.below hb)
  replace hB := Lib.hid (hBp.out.trans (hb.mono hBp.out.size))
  clear hb hBp
  obtain ⟨b1, b2, b3, b4, b5, b6⟩ := qb.out.facts
  have b7 := qb.out.lt
  obtain ⟨c1, c2, c3, c4, c5, c6⟩ := qc.out.facts
  have c7 := qc.out.lt
  go_wp2_with fail
  have hBp : Hid (Below w.heap.size w (w9.alloc (.cells #[.bool (decide (p.num < 0)), .string (T (some p.num.natAbs)), .string (T (some p.den))] 23))) := hB.out.alloc hB.out.size _
  refine (kc6.out _ (hE.out.below hBp.out).1).mono ?_
  rintro e w10 ⟨rfl, hb⟩
  clear b1 b2 b3 b4 b5 b6 b7 c1 c2 c3 c4 c5 c6 c7
  replace qa := Lib.hid ((qa.out.alloc _).below hb)
  replace qb := Lib.hid ((qb.out.alloc _).below hb)
  replace qc := Lib.hid ((qc.out.alloc _).below hb)
  have qp := Lib.hid ((B3.new w9 (decide (p.num < 0)) (T (some p.num.natAbs)) (T (some p.den))).below hb)
  replace hB := Lib.hid (hBp.out.trans (hb.mono hBp.out.size))
  clear hb hBp
  obtain ⟨p1, p2, p3, p4, p5, p6⟩ := qp.out.facts
  have p7 := qp.out.lt
  go_wp2_with fail
  have hBp : Hid (Below w.heap.size w (w10.alloc (.cells #[.bool (decide (q.num < 0)), .string (T (some q.num.natAbs)), .string (T (some q.den))] 23))) := hB.out.alloc hB.out.size _
  refine (kc7.out _ (hE.out.below hBp.out).1).mono ?_
  rintro e w11 ⟨rfl, hb⟩
  clear p1 p2 p3 p4 p5 p6 p7
  replace qa := Lib.hid ((qa.out.alloc _).below hb)
  replace qb := Lib.hid ((qb.out.alloc _).below hb)
  replace qc := Lib.hid ((qc.out.alloc _).below hb)
  replace qp := Lib.hid ((qp.out.alloc _).below hb)
  have qq := Lib.hid ((B3.new w10 (decide (q.num < 0)) (T (some q.num.natAbs)) (T (some q.den))).below hb)
  replace hB := Lib.hid (hBp.out.trans (hb.mono hBp.out.size))
  clear hb hBp
  obtain ⟨a1, a2, a3, a4, a5, a6⟩ := qa.out.facts
  have a7 := qa.out.lt
  obtain ⟨b1, b2, b3, b4, b5, b6⟩ := qb.out.facts
  have b7 := qb.out.lt
  obtain ⟨c1, c2, c3, c4, c5, c6⟩ := qc.out.facts
  have c7 := qc.out.lt
  replace zle := zle.out
  replace neg := neg.out
  replace zer := zer.out
  go_wp2
  all_goals first | (exact absurd (qv_same (by assumption) (by assumption) (by assumption)) same.out) | (exact absurd (same_g same.out) (by assumption)) | (exact absurd (same_n same.out) (by assumption)) | (exact absurd (same_d same.out) (by assumption)) | (go_ret; exact ⟨rfl, hB.out⟩)

set_option maxRecDepth 100000 in
set_option maxHeartbeats 4000000 in
theorem rorder_eq_t_z_good (a b c : Rat) (Oa : OkQ a) (Ob : OkQ b) (Oc : OkQ c) (Da : Dg 40 a) (Db : Dg 40 b) (Dc : Dg 40 c) (zz ww : Int) (cab : cmpQ a b = 0) (cba : cmpQ b a = 0) (cbc : cmpQ b c = zz) (cac : cmpQ a c = ww) (cpq : cmpQ (a + c) (b + c) = 0) (same : a = b) (zle : decide (zz ≤ 0) = true) (wgt : decide (0 < ww) = false) (neg : decide (c.num < 0) = false) (zer : ((T (some c.num.natAbs)).toList == [48]) = true) (w : World) (hE : REnv w) (hs : shortB 40 [((T (some a.num.natAbs)), (T (some a.den))), ((T (some b.num.natAbs)), (T (some b.den))), ((T (some c.num.natAbs)), (T (some c.den)))] = true) :
    Calls Tryz.prog 6 #[qv a, qv b, qv c] w fun e w' => e = .returned (.bool true) ∧ Below w.heap.size w w' := by
  have Va := Lib.hid (valid_qv Oa)
  have za := size_of_valid Va.out
  have Vb := Lib.hid (valid_qv Ob)
  have zb := size_of_valid Vb.out
  have Vc := Lib.hid (valid_qv Oc)
  have zc := size_of_valid Vc.out
  replace hE := Lib.hid hE
  replace hs := Lib.hid hs
  obtain ⟨p, hp⟩ : ∃ r, r = a + c := ⟨_, rfl⟩
  have Dp : Dg 81 p := by rw [hp]; exact Da.add Dc
  obtain ⟨q, hq⟩ : ∃ r, r = b + c := ⟨_, rfl⟩
  have Dq : Dg 81 q := by rw [hq]; exact Db.add Dc
  obtain ⟨m, hm⟩ : ∃ r, r = a * c := ⟨_, rfl⟩
  have Dm : Dg 80 m := by rw [hm]; exact Da.mul Dc
  obtain ⟨n, hn⟩ : ∃ r, r = b * c := ⟨_, rfl⟩
  have Dn : Dg 80 n := by rw [hn]; exact Db.mul Dc
  rw [← hp, ← hq] at cpq
  replace same := Lib.hid same
  replace zle := Lib.hid zle
  replace wgt := Lib.hid wgt
  replace neg := Lib.hid neg
  replace zer := Lib.hid zer
  have kc1 := fun W (h : Env W) => Compare_short a b (Da.short (by omega)) (Db.short (by omega)) W h
  rw [cab] at kc1
  simp only [qv] at kc1
  replace kc1 := Lib.hid kc1
  have kc2 := fun W (h : Env W) => Compare_short b a (Db.short (by omega)) (Da.short (by omega)) W h
  rw [cba] at kc2
  simp only [qv] at kc2
  replace kc2 := Lib.hid kc2
  have kc3 := fun W (h : Env W) => Compare_short b c (Db.short (by omega)) (Dc.short (by omega)) W h
  rw [cbc] at kc3
  simp only [qv] at kc3
  replace kc3 := Lib.hid kc3
  have kc4 := fun W (h : Env W) => Compare_short a c (Da.short (by omega)) (Dc.short (by omega)) W h
  rw [cac] at kc4
  simp only [qv] at kc4
  replace kc4 := Lib.hid kc4
  have kc5 := fun W (h : Env W) => Add_short a c (Da.short (by omega)) (Dc.short (by omega)) W h
  rw [← hp] at kc5
  simp only [qv] at kc5
  replace kc5 := Lib.hid kc5
  have kc6 := fun W (h : Env W) => Add_short b c (Db.short (by omega)) (Dc.short (by omega)) W h
  rw [← hq] at kc6
  simp only [qv] at kc6
  replace kc6 := Lib.hid kc6
  have kc7 := fun W (h : Env W) => Compare_short p q (Dp.short (by omega)) (Dq.short (by omega)) W h
  rw [cpq] at kc7
  simp only [qv] at kc7
  replace kc7 := Lib.hid kc7
  clear hp hq hm hn Dp Dq Dm Dn cab cba cbc cac cpq
  clear Oa Ob Oc Da Db Dc
  simp only [qv]
  go_enter Tryz.func6, Tryz.ntmps6
  go_wp2_with fail
  refine (rhead_any _ (hE.out.below (triW_below w (decide (a.num < 0)) (decide (b.num < 0)) (decide (c.num < 0)) (T (some a.num.natAbs)) (T (some a.den)) (T (some b.num.natAbs)) (T (some b.den)) (T (some c.num.natAbs)) (T (some c.den))))).mono ?_
  rintro e w0 ⟨rfl, hb⟩
  obtain ⟨qa, qb, qc⟩ := triW_boxes w (decide (a.num < 0)) (decide (b.num < 0)) (decide (c.num < 0)) (T (some a.num.natAbs)) (T (some a.den)) (T (some b.num.natAbs)) (T (some b.den)) (T (some c.num.natAbs)) (T (some c.den))
  replace qa := Lib.hid (qa.below hb)
  replace qb := Lib.hid (qb.below hb)
  replace qc := Lib.hid (qc.below hb)
  have hB := Lib.hid ((triW_below w (decide (a.num < 0)) (decide (b.num < 0)) (decide (c.num < 0)) (T (some a.num.natAbs)) (T (some a.den)) (T (some b.num.natAbs)) (T (some b.den)) (T (some c.num.natAbs)) (T (some c.den))).trans (hb.mono (triW_below w (decide (a.num < 0)) (decide (b.num < 0)) (decide (c.num < 0)) (T (some a.num.natAbs)) (T (some a.den)) (T (some b.num.natAbs)) (T (some b.den)) (T (some c.num.natAbs)) (T (some c.den))).size))
  clear hb
  obtain ⟨a1, a2, a3, a4, a5, a6⟩ := qa.out.facts
  have a7 := qa.out.lt
  obtain ⟨b1, b2, b3, b4, b5, b6⟩ := qb.out.facts
  have b7 := qb.out.lt
  obtain ⟨c1, c2, c3, c4, c5, c6⟩ := qc.out.facts
  have c7 := qc.out.lt
  go_wp2_with fail
  refine (short_any 40 [((T (some a.num.natAbs)), (T (some a.den))), ((T (some b.num.natAbs)), (T (some b.den))), ((T (some c.num.natAbs)), (T (some c.den)))] w0.heap.size 3 _ (by simp) (raws3 w0 (decide (a.num < 0)) (decide (b.num < 0)) (decide (c.num < 0)) (T (some a.num.natAbs)) (T (some a.den)) (T (some b.num.natAbs)) (T (some b.den)) (T (some c.num.natAbs)) (T (some c.den)))).mono ?_
  rintro e w1 ⟨rfl, rfl⟩
  rw [hs.out]
  obtain ⟨w1, hw1⟩ : ∃ W, W = w0.alloc (.cells #[.bool (decide (a.num < 0)), .string (T (some a.num.natAbs)), .string (T (some a.den)), .bool (decide (b.num < 0)), .string (T (some b.num.natAbs)), .string (T (some b.den)), .bool (decide (c.num < 0)), .string (T (some c.num.natAbs)), .string (T (some c.den))] 23) := ⟨_, rfl⟩
  rw [← hw1]
  clear a1 a2 a3 a4 a5 a6 a7 b1 b2 b3 b4 b5 b6 b7 c1 c2 c3 c4 c5 c6 c7
  replace qa : Hid (B3 w1 w.heap.size (decide (a.num < 0)) (T (some a.num.natAbs)) (T (some a.den))) := by rw [hw1]; exact qa.out.alloc _
  replace qb : Hid (B3 w1 (w.heap.size + 1) (decide (b.num < 0)) (T (some b.num.natAbs)) (T (some b.den))) := by rw [hw1]; exact qb.out.alloc _
  replace qc : Hid (B3 w1 (w.heap.size + 1 + 1) (decide (c.num < 0)) (T (some c.num.natAbs)) (T (some c.den))) := by rw [hw1]; exact qc.out.alloc _
  replace hB : Hid (Below w.heap.size w w1) := by rw [hw1]; exact hB.out.alloc hB.out.size _
  clear hw1
  obtain ⟨a1, a2, a3, a4, a5, a6⟩ := qa.out.facts
  have a7 := qa.out.lt
  obtain ⟨b1, b2, b3, b4, b5, b6⟩ := qb.out.facts
  have b7 := qb.out.lt
  obtain ⟨c1, c2, c3, c4, c5, c6⟩ := qc.out.facts
  have c7 := qc.out.lt
  go_wp2_with fail
  have hBp := hB
  refine (Valid_any (decide (a.num < 0)) (T (some a.num.natAbs)) (T (some a.den)) _ (hE.out.below hBp.out).1 (by omega) (by omega)).mono ?_
  rintro e w2 ⟨rfl, hb⟩
  rw [Va.out]
  clear a1 a2 a3 a4 a5 a6 a7 b1 b2 b3 b4 b5 b6 b7 c1 c2 c3 c4 c5 c6 c7
  replace qa := Lib.hid (qa.out.below hb)
  replace qb := Lib.hid (qb.out.below hb)
  replace qc := Lib.hid (qc.out.below hb)
  replace hB := Lib.hid (hBp.out.trans (hb.mono hBp.out.size))
  clear hb hBp
  obtain ⟨a1, a2, a3, a4, a5, a6⟩ := qa.out.facts
  have a7 := qa.out.lt
  obtain ⟨b1, b2, b3, b4, b5, b6⟩ := qb.out.facts
  have b7 := qb.out.lt
  obtain ⟨c1, c2, c3, c4, c5, c6⟩ := qc.out.facts
  have c7 := qc.out.lt
  go_wp2_with fail
  have hBp := hB
  refine (Valid_any (decide (b.num < 0)) (T (some b.num.natAbs)) (T (some b.den)) _ (hE.out.below hBp.out).1 (by omega) (by omega)).mono ?_
  rintro e w3 ⟨rfl, hb⟩
  rw [Vb.out]
  clear a1 a2 a3 a4 a5 a6 a7 b1 b2 b3 b4 b5 b6 b7 c1 c2 c3 c4 c5 c6 c7
  replace qa := Lib.hid (qa.out.below hb)
  replace qb := Lib.hid (qb.out.below hb)
  replace qc := Lib.hid (qc.out.below hb)
  replace hB := Lib.hid (hBp.out.trans (hb.mono hBp.out.size))
  clear hb hBp
  obtain ⟨a1, a2, a3, a4, a5, a6⟩ := qa.out.facts
  have a7 := qa.out.lt
  obtain ⟨b1, b2, b3, b4, b5, b6⟩ := qb.out.facts
  have b7 := qb.out.lt
  obtain ⟨c1, c2, c3, c4, c5, c6⟩ := qc.out.facts
  have c7 := qc.out.lt
  go_wp2_with fail
  have hBp := hB
  refine (Valid_any (decide (c.num < 0)) (T (some c.num.natAbs)) (T (some c.den)) _ (hE.out.below hBp.out).1 (by omega) (by omega)).mono ?_
  rintro e w4 ⟨rfl, hb⟩
  rw [Vc.out]
  clear a1 a2 a3 a4 a5 a6 a7 b1 b2 b3 b4 b5 b6 b7 c1 c2 c3 c4 c5 c6 c7
  replace qa := Lib.hid (qa.out.below hb)
  replace qb := Lib.hid (qb.out.below hb)
  replace qc := Lib.hid (qc.out.below hb)
  replace hB := Lib.hid (hBp.out.trans (hb.mono hBp.out.size))
  clear hb hBp
  obtain ⟨a1, a2, a3, a4, a5, a6⟩ := qa.out.facts
  have a7 := qa.out.lt
  obtain ⟨b1, b2, b3, b4, b5, b6⟩ := qb.out.facts
  have b7 := qb.out.lt
  obtain ⟨c1, c2, c3, c4, c5, c6⟩ := qc.out.facts
  have c7 := qc.out.lt
  go_wp2_with fail
  have hBp := hB
  refine (kc1.out _ (hE.out.below hBp.out).1).mono ?_
  rintro e w5 ⟨rfl, hb⟩
  clear a1 a2 a3 a4 a5 a6 a7 b1 b2 b3 b4 b5 b6 b7 c1 c2 c3 c4 c5 c6 c7
  replace qa := Lib.hid (qa.out.below hb)
  replace qb := Lib.hid (qb.out.below hb)
  replace qc := Lib.hid (qc.out.below hb)
  replace hB := Lib.hid (hBp.out.trans (hb.mono hBp.out.size))
  clear hb hBp
  obtain ⟨a1, a2, a3, a4, a5, a6⟩ := qa.out.facts
  have a7 := qa.out.lt
  obtain ⟨b1, b2, b3, b4, b5, b6⟩ := qb.out.facts
  have b7 := qb.out.lt
  go_wp2_with fail
  have hBp := hB
  refine (kc2.out _ (hE.out.below hBp.out).1).mono ?_
  rintro e w6 ⟨rfl, hb⟩
  clear a1 a2 a3 a4 a5 a6 a7 b1 b2 b3 b4 b5 b6 b7
  replace qa := Lib.hid (qa.out.below hb)
  replace qb := Lib.hid (qb.out.below hb)
  replace qc := Lib.hid (qc.out.below hb)
  replace hB := Lib.hid (hBp.out.trans (hb.mono hBp.out.size))
  clear hb hBp
  obtain ⟨b1, b2, b3, b4, b5, b6⟩ := qb.out.facts
  have b7 := qb.out.lt
  obtain ⟨c1, c2, c3, c4, c5, c6⟩ := qc.out.facts
  have c7 := qc.out.lt
  go_wp2_with fail
  have hBp := hB
  refine (kc3.out _ (hE.out.below hBp.out).1).mono ?_
  rintro e w7 ⟨rfl, hb⟩
  clear b1 b2 b3 b4 b5 b6 b7 c1 c2 c3 c4 c5 c6 c7
  replace qa := Lib.hid (qa.out.below hb)
  replace qb := Lib.hid (qb.out.below hb)
  replace qc := Lib.hid (qc.out.below hb)
  replace hB := Lib.hid (hBp.out.trans (hb.mono hBp.out.size))
  clear hb hBp
  obtain ⟨a1, a2, a3, a4, a5, a6⟩ := qa.out.facts
  have a7 := qa.out.lt
  obtain ⟨c1, c2, c3, c4, c5, c6⟩ := qc.out.facts
  have c7 := qc.out.lt
  go_wp2_with fail
  have hBp := hB
  refine (kc4.out _ (hE.out.below hBp.out).1).mono ?_
  rintro e w8 ⟨rfl, hb⟩
  clear a1 a2 a3 a4 a5 a6 a7 c1 c2 c3 c4 c5 c6 c7
  replace qa := Lib.hid (qa.out.below hb)
  replace qb := Lib.hid (qb.out.below hb)
  replace qc := Lib.hid (qc.out.below hb)
  replace hB := Lib.hid (hBp.out.trans (hb.mono hBp.out.size))
  clear hb hBp
  obtain ⟨a1, a2, a3, a4, a5, a6⟩ := qa.out.facts
  have a7 := qa.out.lt
  obtain ⟨c1, c2, c3, c4, c5, c6⟩ := qc.out.facts
  have c7 := qc.out.lt
  go_wp2_with fail
  have hBp := hB
  refine (kc5.out _ (hE.out.below hBp.out).1).mono ?_
  rintro e w9 ⟨rfl, hb⟩
  clear a1 a2 a3 a4 a5 a6 a7 c1 c2 c3 c4 c5 c6 c7
  replace qa := Lib.hid (qa.out.below hb)
  replace qb := Lib.hid (qb.out.below hb)
  replace qc := Lib.hid (qc.out.below hb)
  replace hB := Lib.hid (hBp.out.trans (hb.mono hBp.out.size))
  clear hb hBp
  obtain ⟨b1, b2, b3, b4, b5, b6⟩ := qb.out.facts
  have b7 := qb.out.lt
  obtain ⟨c1, c2, c3, c4, c5, c6⟩ := qc.out.facts
  have c7 := qc.out.lt
  go_wp2_with fail
  have hBp : Hid (Below w.heap.size w (w9.alloc (.cells #[.bool (decide (p.num < 0)), .string (T (some p.num.natAbs)), .string (T (some p.den))] 23))) := hB.out.alloc hB.out.size _
  refine (kc6.out _ (hE.out.below hBp.out).1).mono ?_
  rintro e w10 ⟨rfl, hb⟩
  clear b1 b2 b3 b4 b5 b6 b7 c1 c2 c3 c4 c5 c6 c7
  replace qa := Lib.hid ((qa.out.alloc _).below hb)
  replace qb := Lib.hid ((qb.out.alloc _).below hb)
  replace qc := Lib.hid ((qc.out.alloc _).below hb)
  have qp := Lib.hid ((B3.new w9 (decide (p.num < 0)) (T (some p.num.natAbs)) (T (some p.den))).below hb)
  replace hB := Lib.hid (hBp.out.trans (hb.mono hBp.out.size))
  clear hb hBp
  obtain ⟨p1, p2, p3, p4, p5, p6⟩ := qp.out.facts
  have p7 := qp.out.lt
  go_wp2_with fail
  have hBp : Hid (Below w.heap.size w (w10.alloc (.cells #[.bool (decide (q.num < 0)), .string (T (some q.num.natAbs)), .string (T (some q.den))] 23))) := hB.out.alloc hB.out.size _
  refine (kc7.out _ (hE.out.below hBp.out).1).mono ?_
  rintro e w11 ⟨rfl, hb⟩
  clear p1 p2 p3 p4 p5 p6 p7
  replace qa := Lib.hid ((qa.out.alloc _).below hb)
  replace qb := Lib.hid ((qb.out.alloc _).below hb)
  replace qc := Lib.hid ((qc.out.alloc _).below hb)
  replace qp := Lib.hid ((qp.out.alloc _).below hb)
  have qq := Lib.hid ((B3.new w10 (decide (q.num < 0)) (T (some q.num.natAbs)) (T (some q.den))).below hb)
  replace hB := Lib.hid (hBp.out.trans (hb.mono hBp.out.size))
  clear hb hBp
  obtain ⟨a1, a2, a3, a4, a5, a6⟩ := qa.out.facts
  have a7 := qa.out.lt
  obtain ⟨b1, b2, b3, b4, b5, b6⟩ := qb.out.facts
  have b7 := qb.out.lt
  obtain ⟨c1, c2, c3, c4, c5, c6⟩ := qc.out.facts
  have c7 := qc.out.lt
  replace zle := zle.out
  replace wgt := wgt.out
  replace neg := neg.out
  replace zer := zer.out
  go_wp2
  all_goals first | (exact absurd (qv_same (by assumption) (by assumption) (by assumption)) same.out) | (exact absurd (same_g same.out) (by assumption)) | (exact absurd (same_n same.out) (by assumption)) | (exact absurd (same_d same.out) (by assumption)) | (go_ret; exact ⟨rfl, hB.out⟩)

set_option maxRecDepth 100000 in
set_option maxHeartbeats 4000000 in
theorem rorder_lt_f_z_good (a b c : Rat) (Oa : OkQ a) (Ob : OkQ b) (Oc : OkQ c) (Da : Dg 40 a) (Db : Dg 40 b) (Dc : Dg 40 c) (zz ww : Int) (cab : cmpQ a b = (-1)) (cba : cmpQ b a = 1) (cbc : cmpQ b c = zz) (cac : cmpQ a c = ww) (cpq : cmpQ (a + c) (b + c) = (-1)) (same : a ≠ b) (zle : decide (zz ≤ 0) = false) (neg : decide (c.num < 0) = false) (zer : ((T (some c.num.natAbs)).toList == [48]) = true) (w : World) (hE : REnv w) (hs : shortB 40 [((T (some a.num.natAbs)), (T (some a.den))), ((T (some b.num.natAbs)), (T (some b.den))), ((T (some c.num.natAbs)), (T (some c.den)))] = true) :
    Calls Tryz.prog 6 #[qv a, qv b, qv c] w fun e w' => e = .returned (.bool true) ∧ Below w.heap.size w w' := by
  have Va := Lib.hid (valid_qv Oa)
  have za := size_of_valid Va.out
  have Vb := Lib.hid (valid_qv Ob)
  have zb := size_of_valid Vb.out
  have Vc := Lib.hid (valid_qv Oc)
  have zc := size_of_valid Vc.out
  replace hE := Lib.hid hE
  replace hs := Lib.hid hs
  obtain ⟨p, hp⟩ : ∃ r, r = a + c := ⟨_, rfl⟩
  have Dp : Dg 81 p := by rw [hp]; exact Da.add Dc
  obtain ⟨q, hq⟩ : ∃ r, r = b + c := ⟨_, rfl⟩
  have Dq : Dg 81 q := by rw [hq]; exact Db.add Dc
  obtain ⟨m, hm⟩ : ∃ r, r = a * c := ⟨_, rfl⟩
  have Dm : Dg 80 m := by rw [hm]; exact Da.mul Dc
  obtain ⟨n, hn⟩ : ∃ r, r = b * c := ⟨_, rfl⟩
  have Dn : Dg 80 n := by rw [hn]; exact Db.mul Dc
  rw [← hp, ← hq] at cpq
  replace same := Lib.hid same
  replace zle := Lib.hid zle
  replace neg := Lib.hid neg
  replace zer := Lib.hid zer
  have kc1 := fun W (h : Env W) => Compare_short a b (Da.short (by omega)) (Db.short (by omega)) W h
  rw [cab] at kc1
  simp only [qv] at kc1
  replace kc1 := Lib.hid kc1
  have kc2 := fun W (h : Env W) => Compare_short b a (Db.short (by omega)) (Da.short (by omega)) W h
  rw [cba] at kc2
  simp only [qv] at kc2
  replace kc2 := Lib.hid kc2
  have kc3 := fun W (h : Env W) => Compare_short b c (Db.short (by omega)) (Dc.short (by omega)) W h
  rw [cbc] at kc3
  simp only [qv] at kc3
  replace kc3 := Lib.hid kc3
  have kc4 := fun W (h : Env W) => Compare_short a c (Da.short (by omega)) (Dc.short (by omega)) W h
  rw [cac] at kc4
  simp only [qv] at kc4
  replace kc4 := Lib.hid kc4
  have kc5 := fun W (h : Env W) => Add_short a c (Da.short (by omega)) (Dc.short (by omega)) W h
  rw [← hp] at kc5
  simp only [qv] at kc5
  replace kc5 := Lib.hid kc5
  have kc6 := fun W (h : Env W) => Add_short b c (Db.short (by omega)) (Dc.short (by omega)) W h
  rw [← hq] at kc6
  simp only [qv] at kc6
  replace kc6 := Lib.hid kc6
  have kc7 := fun W (h : Env W) => Compare_short p q (Dp.short (by omega)) (Dq.short (by omega)) W h
  rw [cpq] at kc7
  simp only [qv] at kc7
  replace kc7 := Lib.hid kc7
  clear hp hq hm hn Dp Dq Dm Dn cab cba cbc cac cpq
  clear Oa Ob Oc Da Db Dc
  simp only [qv]
  go_enter Tryz.func6, Tryz.ntmps6
  go_wp2_with fail
  refine (rhead_any _ (hE.out.below (triW_below w (decide (a.num < 0)) (decide (b.num < 0)) (decide (c.num < 0)) (T (some a.num.natAbs)) (T (some a.den)) (T (some b.num.natAbs)) (T (some b.den)) (T (some c.num.natAbs)) (T (some c.den))))).mono ?_
  rintro e w0 ⟨rfl, hb⟩
  obtain ⟨qa, qb, qc⟩ := triW_boxes w (decide (a.num < 0)) (decide (b.num < 0)) (decide (c.num < 0)) (T (some a.num.natAbs)) (T (some a.den)) (T (some b.num.natAbs)) (T (some b.den)) (T (some c.num.natAbs)) (T (some c.den))
  replace qa := Lib.hid (qa.below hb)
  replace qb := Lib.hid (qb.below hb)
  replace qc := Lib.hid (qc.below hb)
  have hB := Lib.hid ((triW_below w (decide (a.num < 0)) (decide (b.num < 0)) (decide (c.num < 0)) (T (some a.num.natAbs)) (T (some a.den)) (T (some b.num.natAbs)) (T (some b.den)) (T (some c.num.natAbs)) (T (some c.den))).trans (hb.mono (triW_below w (decide (a.num < 0)) (decide (b.num < 0)) (decide (c.num < 0)) (T (some a.num.natAbs)) (T (some a.den)) (T (some b.num.natAbs)) (T (some b.den)) (T (some c.num.natAbs)) (T (some c.den))).size))
  clear hb
  obtain ⟨a1, a2, a3, a4, a5, a6⟩ := qa.out.facts
  have a7 := qa.out.lt
  obtain ⟨b1, b2, b3, b4, b5, b6⟩ := qb.out.facts
  have b7 := qb.out.lt
  obtain ⟨c1, c2, c3, c4, c5, c6⟩ := qc.out.facts
  have c7 := qc.out.lt
  go_wp2_with fail
  refine (short_any 40 [((T (some a.num.natAbs)), (T (some a.den))), ((T (some b.num.natAbs)), (T (some b.den))), ((T (some c.num.natAbs)), (T (some c.den)))] w0.heap.size 3 _ (by simp) (raws3 w0 (decide (a.num < 0)) (decide (b.num < 0)) (decide (c.num < 0)) (T (some a.num.natAbs)) (T (some a.den)) (T (some b.num.natAbs)) (T (some b.den)) (T (some c.num.natAbs)) (T (some c.den)))).mono ?_
  rintro e w1 ⟨rfl, rfl⟩
  rw [hs.out]
  obtain ⟨w1, hw1⟩ : ∃ W, W = w0.alloc (.cells #[.bool (decide (a.num < 0)), .string (T (some a.num.natAbs)), .string (T (some a.den)), .bool (decide (b.num < 0)), .string (T (some b.num.natAbs)), .string (T (some b.den)), .bool (decide (c.num < 0)), .string (T (some c.num.natAbs)), .string (T (some c.den))] 23) := ⟨_, rfl⟩
  rw [← hw1]
  clear a1 a2 a3 a4 a5 a6 a7 b1 b2 b3 b4 b5 b6 b7 c1 c2 c3 c4 c5 c6 c7
  replace qa : Hid (B3 w1 w.heap.size (decide (a.num < 0)) (T (some a.num.natAbs)) (T (some a.den))) := by rw [hw1]; exact qa.out.alloc _
  replace qb : Hid (B3 w1 (w.heap.size + 1) (decide (b.num < 0)) (T (some b.num.natAbs)) (T (some b.den))) := by rw [hw1]; exact qb.out.alloc _
  replace qc : Hid (B3 w1 (w.heap.size + 1 + 1) (decide (c.num < 0)) (T (some c.num.natAbs)) (T (some c.den))) := by rw [hw1]; exact qc.out.alloc _
  replace hB : Hid (Below w.heap.size w w1) := by rw [hw1]; exact hB.out.alloc hB.out.size _
  clear hw1
  obtain ⟨a1, a2, a3, a4, a5, a6⟩ := qa.out.facts
  have a7 := qa.out.lt
  obtain ⟨b1, b2, b3, b4, b5, b6⟩ := qb.out.facts
  have b7 := qb.out.lt
  obtain ⟨c1, c2, c3, c4, c5, c6⟩ := qc.out.facts
  have c7 := qc.out.lt
  go_wp2_with fail
  have hBp := hB
  refine (Valid_any (decide (a.num < 0)) (T (some a.num.natAbs)) (T (some a.den)) _ (hE.out.below hBp.out).1 (by omega) (by omega)).mono ?_
  rintro e w2 ⟨rfl, hb⟩
  rw [Va.out]
  clear a1 a2 a3 a4 a5 a6 a7 b1 b2 b3 b4 b5 b6 b7 c1 c2 c3 c4 c5 c6 c7
  replace qa := Lib.hid (qa.out.below hb)
  replace qb := Lib.hid (qb.out.below hb)
  replace qc := Lib.hid (qc.out.below hb)
  replace hB := Lib.hid (hBp.out.trans (hb.mono hBp.out.size))
  clear hb hBp
  obtain ⟨a1, a2, a3, a4, a5, a6⟩ := qa.out.facts
  have a7 := qa.out.lt
  obtain ⟨b1, b2, b3, b4, b5, b6⟩ := qb.out.facts
  have b7 := qb.out.lt
  obtain ⟨c1, c2, c3, c4, c5, c6⟩ := qc.out.facts
  have c7 := qc.out.lt
  go_wp2_with fail
  have hBp := hB
  refine (Valid_any (decide (b.num < 0)) (T (some b.num.natAbs)) (T (some b.den)) _ (hE.out.below hBp.out).1 (by omega) (by omega)).mono ?_
  rintro e w3 ⟨rfl, hb⟩
  rw [Vb.out]
  clear a1 a2 a3 a4 a5 a6 a7 b1 b2 b3 b4 b5 b6 b7 c1 c2 c3 c4 c5 c6 c7
  replace qa := Lib.hid (qa.out.below hb)
  replace qb := Lib.hid (qb.out.below hb)
  replace qc := Lib.hid (qc.out.below hb)
  replace hB := Lib.hid (hBp.out.trans (hb.mono hBp.out.size))
  clear hb hBp
  obtain ⟨a1, a2, a3, a4, a5, a6⟩ := qa.out.facts
  have a7 := qa.out.lt
  obtain ⟨b1, b2, b3, b4, b5, b6⟩ := qb.out.facts
  have b7 := qb.out.lt
  obtain ⟨c1, c2, c3, c4, c5, c6⟩ := qc.out.facts
  have c7 := qc.out.lt
  go_wp2_with fail
  have hBp := hB
  refine (Valid_any (decide (c.num < 0)) (T (some c.num.natAbs)) (T (some c.den)) _ (hE.out.below hBp.out).1 (by omega) (by omega)).mono ?_
  rintro e w4 ⟨rfl, hb⟩
  rw [Vc.out]
  clear a1 a2 a3 a4 a5 a6 a7 b1 b2 b3 b4 b5 b6 b7 c1 c2 c3 c4 c5 c6 c7
  replace qa := Lib.hid (qa.out.below hb)
  replace qb := Lib.hid (qb.out.below hb)
  replace qc := Lib.hid (qc.out.below hb)
  replace hB := Lib.hid (hBp.out.trans (hb.mono hBp.out.size))
  clear hb hBp
  obtain ⟨a1, a2, a3, a4, a5, a6⟩ := qa.out.facts
  have a7 := qa.out.lt
  obtain ⟨b1, b2, b3, b4, b5, b6⟩ := qb.out.facts
  have b7 := qb.out.lt
  obtain ⟨c1, c2, c3, c4, c5, c6⟩ := qc.out.facts
  have c7 := qc.out.lt
  go_wp2_with fail
  have hBp := hB
  refine (kc1.out _ (hE.out.below hBp.out).1).mono ?_
  rintro e w5 ⟨rfl, hb⟩
  clear a1 a2 a3 a4 a5 a6 a7 b1 b2 b3 b4 b5 b6 b7 c1 c2 c3 c4 c5 c6 c7
  replace qa := Lib.hid (qa.out.below hb)
  replace qb := Lib.hid (qb.out.below hb)
  replace qc := Lib.hid (qc.out.below hb)
  replace hB := Lib.hid (hBp.out.trans (hb.mono hBp.out.size))
  clear hb hBp
  obtain ⟨a1, a2, a3, a4, a5, a6⟩ := qa.out.facts
  have a7 := qa.out.lt
  obtain ⟨b1, b2, b3, b4, b5, b6⟩ := qb.out.facts
  have b7 := qb.out.lt
  go_wp2_with fail
  have hBp := hB
  refine (kc2.out _ (hE.out.below hBp.out).1).mono ?_
  rintro e w6 ⟨rfl, hb⟩
  clear a1 a2 a3 a4 a5 a6 a7 b1 b2 b3 b4 b5 b6 b7
  replace qa := Lib.hid (qa.out.below hb)
  replace qb := Lib.hid (qb.out.below hb)
  replace qc := Lib.hid (qc.out.below hb)
  replace hB := Lib.hid (hBp.out.trans (hb.mono hBp.out.size))
  clear hb hBp
  obtain ⟨b1, b2, b3, b4, b5, b6⟩ := qb.out.facts
  have b7 := qb.out.lt
  obtain ⟨c1, c2, c3, c4, c5, c6⟩ := qc.out.facts
  have c7 := qc.out.lt
  go_wp2_with fail
  have hBp := hB
  refine (kc3.out _ (hE.out.below hBp.out).1).mono ?_
  rintro e w7 ⟨rfl, hb⟩
  clear b1 b2 b3 b4 b5 b6 b7 c1 c2 c3 c4 c5 c6 c7
  replace qa := Lib.hid (qa.out.below hb)
  replace qb := Lib.hid (qb.out.below hb)
  replace qc := Lib.hid (qc.out.below hb)
  replace hB := Lib.hid (hBp.out.trans (hb.mono hBp.out.size))
  clear hb hBp
  obtain ⟨a1, a2, a3, a4, a5, a6⟩ := qa.out.facts
  have a7 := qa.out.lt
  obtain ⟨c1, c2, c3, c4, c5, c6⟩ := qc.out.facts
  have c7 := qc.out.lt
  go_wp2_with fail
  have hBp := hB
  refine (kc4.out _ (hE.out.below hBp.out).1).mono ?_
  rintro e w8 ⟨rfl, hb⟩
  clear a1 a2 a3 a4 a5 a6 a7 c1 c2 c3 c4 c5 c6 c7
  replace qa := Lib.hid (qa.out.below hb)
  replace qb := Lib.hid (qb.out.below hb)
  replace qc := Lib.hid (qc.out.below hb)
  replace hB := Lib.hid (hBp.out.trans (hb.mono hBp.out.size))
  clear hb hBp
  obtain ⟨a1, a2, a3, a4, a5, a6⟩ := qa.out.facts
  have a7 := qa.out.lt
  obtain ⟨c1, c2, c3, c4, c5, c6⟩ := qc.out.facts
  have c7 := qc.out.lt
  go_wp2_with fail
  have hBp := hB
  refine (kc5.out _ (hE.out.below hBp.out).1).mono ?_
  rintro e w9 ⟨rfl, hb⟩
  clear a1 a2 a3 a4 a5 a6 a7 c1 c2 c3 c4 c5 c6 c7
  replace qa := Lib.hid (qa.out.below hb)
  replace qb := Lib.hid (qb.out.below hb)
  replace qc := Lib.hid (qc.out.below hb)
  replace hB := Lib.hid (hBp.out.trans (hb.mono hBp.out.size))
  clear hb hBp
  obtain ⟨b1, b2, b3, b4, b5, b6⟩ := qb.out.facts
  have b7 := qb.out.lt
  obtain ⟨c1, c2, c3, c4, c5, c6⟩ := qc.out.facts
  have c7 := qc.out.lt
  go_wp2_with fail
  have hBp : Hid (Below w.heap.size w (w9.alloc (.cells #[.bool (decide (p.num < 0)), .string (T (some p.num.natAbs)), .string (T (some p.den))] 23))) := hB.out.alloc hB.out.size _
  refine (kc6.out _ (hE.out.below hBp.out).1).mono ?_
  rintro e w10 ⟨rfl, hb⟩
  clear b1 b2 b3 b4 b5 b6 b7 c1 c2 c3 c4 c5 c6 c7
  replace qa := Lib.hid ((qa.out.alloc _).below hb)
  replace qb := Lib.hid ((qb.out.alloc _).below hb)
  replace qc := Lib.hid ((qc.out.alloc _).below hb)
  have qp := Lib.hid ((B3.new w9 (decide (p.num < 0)) (T (some p.num.natAbs)) (T (some p.den))).below hb)
  replace hB := Lib.hid (hBp.out.trans (hb.mono hBp.out.size))
  clear hb hBp
  obtain ⟨p1, p2, p3, p4, p5, p6⟩ := qp.out.facts
  have p7 := qp.out.lt
  go_wp2_with fail
  have hBp : Hid (Below w.heap.size w (w10.alloc (.cells #[.bool (decide (q.num < 0)), .string (T (some q.num.natAbs)), .string (T (some q.den))] 23))) := hB.out.alloc hB.out.size _
  refine (kc7.out _ (hE.out.below hBp.out).1).mono ?_
  rintro e w11 ⟨rfl, hb⟩
  clear p1 p2 p3 p4 p5 p6 p7
  replace qa := Lib.hid ((qa.out.alloc _).below hb)
  replace qb := Lib.hid ((qb.out.alloc _).below hb)
  replace qc := Lib.hid ((qc.out.alloc _).below hb)
  replace qp := Lib.hid ((qp.out.alloc _).below hb)
  have qq := Lib.hid ((B3.new w10 (decide (q.num < 0)) (T (some q.num.natAbs)) (T (some q.den))).below hb)
  replace hB := Lib.hid (hBp.out.trans (hb.mono hBp.out.size))
  clear hb hBp
  obtain ⟨a1, a2, a3, a4, a5, a6⟩ := qa.out.facts
  have a7 := qa.out.lt
  obtain ⟨b1, b2, b3, b4, b5, b6⟩ := qb.out.facts
  have b7 := qb.out.lt
  obtain ⟨c1, c2, c3, c4, c5, c6⟩ := qc.out.facts
  have c7 := qc.out.lt
  replace zle := zle.out
  replace neg := neg.out
  replace zer := zer.out
  go_wp2
  all_goals first | (exact absurd (qv_same (by assumption) (by assumption) (by assumption)) same.out) | (exact absurd (same_g same.out) (by assumption)) | (exact absurd (same_n same.out) (by assumption)) | (exact absurd (same_d same.out) (by assumption)) | (go_ret; exact ⟨rfl, hB.out⟩)

set_option maxRecDepth 100000 in
set_option maxHeartbeats 4000000 in
theorem rorder_lt_t_z_good (a b c : Rat) (Oa : OkQ a) (Ob : OkQ b) (Oc : OkQ c) (Da : Dg 40 a) (Db : Dg 40 b) (Dc : Dg 40 c) (zz ww : Int) (cab : cmpQ a b = (-1)) (cba : cmpQ b a = 1) (cbc : cmpQ b c = zz) (cac : cmpQ a c = ww) (cpq : cmpQ (a + c) (b + c) = (-1)) (same : a ≠ b) (zle : decide (zz ≤ 0) = true) (wgt : decide (0 < ww) = false) (neg : decide (c.num < 0) = false) (zer : ((T (some c.num.natAbs)).toList == [48]) = true) (w : World) (hE : REnv w) (hs : shortB 40 [((T (some a.num.natAbs)), (T (some a.den))), ((T (some b.num.natAbs)), (T (some b.den))), ((T (some c.num.natAbs)), (T (some c.den)))] = true) :
    Calls Tryz.prog 6 #[qv a, qv b, qv c] w fun e w' => e = .returned (.bool true) ∧ Below w.heap.size w w' := by
  have Va := Lib.hid (valid_qv Oa)
  have za := size_of_valid Va.out
  have Vb := Lib.hid (valid_qv Ob)
  have zb := size_of_valid Vb.out
  have Vc := Lib.hid (valid_qv Oc)
  have zc := size_of_valid Vc.out
  replace hE := Lib.hid hE
  replace hs := Lib.hid hs
  obtain ⟨p, hp⟩ : ∃ r, r = a + c := ⟨_, rfl⟩
  have Dp : Dg 81 p := by rw [hp]; exact Da.add Dc
  obtain ⟨q, hq⟩ : ∃ r, r = b + c := ⟨_, rfl⟩
  have Dq : Dg 81 q := by rw [hq]; exact Db.add Dc
  obtain ⟨m, hm⟩ : ∃ r, r = a * c := ⟨_, rfl⟩
  have Dm : Dg 80 m := by rw [hm]; exact Da.mul Dc
  obtain ⟨n, hn⟩ : ∃ r, r = b * c := ⟨_, rfl⟩
  have Dn : Dg 80 n := by rw [hn]; exact Db.mul Dc
  rw [← hp, ← hq] at cpq
  replace same := Lib.hid same
  replace zle := Lib.hid zle
  replace wgt := Lib.hid wgt
  replace neg := Lib.hid neg
  replace zer := Lib.hid zer
  have kc1 := fun W (h : Env W) => Compare_short a b (Da.short (by omega)) (Db.short (by omega)) W h
  rw [cab] at kc1
  simp only [qv] at kc1
  replace kc1 := Lib.hid kc1
  have kc2 := fun W (h : Env W) => Compare_short b a (Db.short (by omega)) (Da.short (by omega)) W h
  rw [cba] at kc2
  simp only [qv] at kc2
  replace kc2 := Lib.hid kc2
  have kc3 := fun W (h : Env W) => Compare_short b c (Db.short (by omega)) (Dc.short (by omega)) W h
  rw [cbc] at kc3
  simp only [qv] at kc3
  replace kc3 := Lib.hid kc3
  have kc4 := fun W (h : Env W) => Compare_short a c (Da.short (by omega)) (Dc.short (by omega)) W h
  rw [cac] at kc4
  simp only [qv] at kc4
  replace kc4 := Lib.hid kc4
  have kc5 := fun W (h : Env W) => Add_short a c (Da.short (by omega)) (Dc.short (by omega)) W h
  rw [← hp] at kc5
  simp only [qv] at kc5
  replace kc5 := Lib.hid kc5
  have kc6 := fun W (h : Env W) => Add_short b c (Db.short (by omega)) (Dc.short (by omega)) W h
  rw [← hq] at kc6
  simp only [qv] at kc6
  replace kc6 := Lib.hid kc6
  have kc7 := fun W (h : Env W) => Compare_short p q (Dp.short (by omega)) (Dq.short (by omega)) W h
  rw [cpq] at kc7
  simp only [qv] at kc7
  replace kc7 := Lib.hid kc7
  clear hp hq hm hn Dp Dq Dm Dn cab cba cbc cac cpq
  clear Oa Ob Oc Da Db Dc
  simp only [qv]
  go_enter Tryz.func6, Tryz.ntmps6
  go_wp2_with fail
  refine (rhead_any _ (hE.out.below (triW_below w (decide (a.num < 0)) (decide (b.num < 0)) (decide (c.num < 0)) (T (some a.num.natAbs)) (T (some a.den)) (T (some b.num.natAbs)) (T (some b.den)) (T (some c.num.natAbs)) (T (some c.den))))).mono ?_
  rintro e w0 ⟨rfl, hb⟩
  obtain ⟨qa, qb, qc⟩ := triW_boxes w (decide (a.num < 0)) (decide (b.num < 0)) (decide (c.num < 0)) (T (some a.num.natAbs)) (T (some a.den)) (T (some b.num.natAbs)) (T (some b.den)) (T (some c.num.natAbs)) (T (some c.den))
  replace qa := Lib.hid (qa.below hb)
  replace qb := Lib.hid (qb.below hb)
  replace qc := Lib.hid (qc.below hb)
  have hB := Lib.hid ((triW_below w (decide (a.num < 0)) (decide (b.num < 0)) (decide (c.num < 0)) (T (some a.num.natAbs)) (T (some a.den)) (T (some b.num.natAbs)) (T (some b.den)) (T (some c.num.natAbs)) (T (some c.den))).trans (hb.mono (triW_below w (decide (a.num < 0)) (decide (b.num < 0)) (decide (c.num < 0)) (T (some a.num.natAbs)) (T (some a.den)) (T (some b.num.natAbs)) (T (some b.den)) (T (some c.num.natAbs)) (T (some c.den))).size))
  clear hb
  obtain ⟨a1, a2, a3, a4, a5, a6⟩ := qa.out.facts
  have a7 := qa.out.lt
  obtain ⟨b1, b2, b3, b4, b5, b6⟩ := qb.out.facts
  have b7 := qb.out.lt
  obtain ⟨c1, c2, c3, c4, c5, c6⟩ := qc.out.facts
  have c7 := qc.out.lt
  go_wp2_with fail
  refine (short_any 40 [((T (some a.num.natAbs)), (T (some a.den))), ((T (some b.num.natAbs)), (T (some b.den))), ((T (some c.num.natAbs)), (T (some c.den)))] w0.heap.size 3 _ (by simp) (raws3 w0 (decide (a.num < 0)) (decide (b.num < 0)) (decide (c.num < 0)) (T (some a.num.natAbs)) (T (some a.den)) (T (some b.num.natAbs)) (T (some b.den)) (T (some c.num.natAbs)) (T (some c.den)))).mono ?_
  rintro e w1 ⟨rfl, rfl⟩
  rw [hs.out]
  obtain ⟨w1, hw1⟩ : ∃ W, W = w0.alloc (.cells #[.bool (decide (a.num < 0)), .string (T (some a.num.natAbs)), .string (T (some a.den)), .bool (decide (b.num < 0)), .string (T (some b.num.natAbs)), .string (T (some b.den)), .bool (decide (c.num < 0)), .string (T (some c.num.natAbs)), .string (T (some c.den))] 23) := ⟨_, rfl⟩
  rw [← hw1]
  clear a1 a2 a3 a4 a5 a6 a7 b1 b2 b3 b4 b5 b6 b7 c1 c2 c3 c4 c5 c6 c7
  replace qa : Hid (B3 w1 w.heap.size (decide (a.num < 0)) (T (some a.num.natAbs)) (T (some a.den))) := by rw [hw1]; exact qa.out.alloc _
  replace qb : Hid (B3 w1 (w.heap.size + 1) (decide (b.num < 0)) (T (some b.num.natAbs)) (T (some b.den))) := by rw [hw1]; exact qb.out.alloc _
  replace qc : Hid (B3 w1 (w.heap.size + 1 + 1) (decide (c.num < 0)) (T (some c.num.natAbs)) (T (some c.den))) := by rw [hw1]; exact qc.out.alloc _
  replace hB : Hid (Below w.heap.size w w1) := by rw [hw1]; exact hB.out.alloc hB.out.size _
  clear hw1
  obtain ⟨a1, a2, a3, a4, a5, a6⟩ := qa.out.facts
  have a7 := qa.out.lt
  obtain ⟨b1, b2, b3, b4, b5, b6⟩ := qb.out.facts
  have b7 := qb.out.lt
  obtain ⟨c1, c2, c3, c4, c5, c6⟩ := qc.out.facts
  have c7 := qc.out.lt
  go_wp2_with fail
  have hBp := hB
  refine (Valid_any (decide (a.num < 0)) (T (some a.num.natAbs)) (T (some a.den)) _ (hE.out.below hBp.out).1 (by omega) (by omega)).mono ?_
  rintro e w2 ⟨rfl, hb⟩
  rw [Va.out]
  clear a1 a2 a3 a4 a5 a6 a7 b1 b2 b3 b4 b5 b6 b7 c1 c2 c3 c4 c5 c6 c7
  replace qa := Lib.hid (qa.out.below hb)
  replace qb := Lib.hid (qb.out.below hb)
  replace qc := Lib.hid (qc.out.below hb)
  replace hB := Lib.hid (hBp.out.trans (hb.mono hBp.out.size))
  clear hb hBp
  obtain ⟨a1, a2, a3, a4, a5, a6⟩ := qa.out.facts
  have a7 := qa.out.lt
  obtain ⟨b1, b2, b3, b4, b5, b6⟩ := qb.out.facts
  have b7 := qb.out.lt
  obtain ⟨c1, c2, c3, c4, c5, c6⟩ := qc.out.facts
  have c7 := qc.out.lt
  go_wp2_with fail
  have hBp := hB
  refine (Valid_any (decide (b.num < 0)) (T (some b.num.natAbs)) (T (some b.den)) _ (hE.out.below hBp.out).1 (by omega) (by omega)).mono ?_
  rintro e w3 ⟨rfl, hb⟩
  rw [Vb.out]
  clear a1 a2 a3 a4 a5 a6 a7 b1 b2 b3 b4 b5 b6 b7 c1 c2 c3 c4 c5 c6 c7
  replace qa := Lib.hid (qa.out.below hb)
  replace qb := Lib.hid (qb.out.below hb)
  replace qc := Lib.hid (qc.out.below hb)
  replace hB := Lib.hid (hBp.out.trans (hb.mono hBp.out.size))
  clear hb hBp
  obtain ⟨a1, a2, a3, a4, a5, a6⟩ := qa.out.facts
  have a7 := qa.out.lt
  obtain ⟨b1, b2, b3, b4, b5, b6⟩ := qb.out.facts
  have b7 := qb.out.lt
  obtain ⟨c1, c2, c3, c4, c5, c6⟩ := qc.out.facts
  have c7 := qc.out.lt
  go_wp2_with fail
  have hBp := hB
  refine (Valid_any (decide (c.num < 0)) (T (some c.num.natAbs)) (T (some c.den)) _ (hE.out.below hBp.out).1 (by omega) (by omega)).mono ?_
  rintro e w4 ⟨rfl, hb⟩
  rw [Vc.out]
  clear a1 a2 a3 a4 a5 a6 a7 b1 b2 b3 b4 b5 b6 b7 c1 c2 c3 c4 c5 c6 c7
  replace qa := Lib.hid (qa.out.below hb)
  replace qb := Lib.hid (qb.out.below hb)
  replace qc := Lib.hid (qc.out.below hb)
  replace hB := Lib.hid (hBp.out.trans (hb.mono hBp.out.size))
  clear hb hBp
  obtain ⟨a1, a2, a3, a4, a5, a6⟩ := qa.out.facts
  have a7 := qa.out.lt
  obtain ⟨b1, b2, b3, b4, b5, b6⟩ := qb.out.facts
  have b7 := qb.out.lt
  obtain ⟨c1, c2, c3, c4, c5, c6⟩ := qc.out.facts
  have c7 := qc.out.lt
  go_wp2_with fail
  have hBp := hB
  refine (kc1.out _ (hE.out.below hBp.out).1).mono ?_
  rintro e w5 ⟨rfl, hb⟩
  clear a1 a2 a3 a4 a5 a6 a7 b1 b2 b3 b4 b5 b6 b7 c1 c2 c3 c4 c5 c6 c7
  replace qa := Lib.hid (qa.out.below hb)
  replace qb := Lib.hid (qb.out.below hb)
  replace qc := Lib.hid (qc.out.below hb)
  replace hB := Lib.hid (hBp.out.trans (hb.mono hBp.out.size))
  clear hb hBp
  obtain ⟨a1, a2, a3, a4, a5, a6⟩ := qa.out.facts
  have a7 := qa.out.lt
  obtain ⟨b1, b2, b3, b4, b5, b6⟩ := qb.out.facts
  have b7 := qb.out.lt
  go_wp2_with fail
  have hBp := hB
  refine (kc2.out _ (hE.out.below hBp.out).1).mono ?_
  rintro e w6 ⟨rfl, hb⟩
  clear a1 a2 a3 a4 a5 a6 a7 b1 b2 b3 b4 b5 b6 b7
  replace qa := Lib.hid (qa.out.below hb)
  replace qb := Lib.hid (qb.out.below hb)
  replace qc := Lib.hid (qc.out.below hb)
  replace hB := Lib.hid (hBp.out.trans (hb.mono hBp.out.size))
  clear hb hBp
  obtain ⟨b1, b2, b3, b4, b5, b6⟩ := qb.out.facts
  have b7 := qb.out.lt
  obtain ⟨c1, c2, c3, c4, c5, c6⟩ := qc.out.facts
  have c7 := qc.out.lt
  go_wp2_with fail
  have hBp := hB
  refine (kc3.out _ (hE.out.below hBp.out).1).mono ?_
  rintro e w7 ⟨rfl, hb⟩
  clear b1 b2 b3 b4 b5 b6 b7 c1 c2 c3 c4 c5 c6 c7
  replace qa := Lib.hid (qa.out.below hb)
  replace qb := Lib.hid (qb.out.below hb)
  replace qc := Lib.hid (qc.out.below hb)
  replace hB := Lib.hid (hBp.out.trans (hb.mono hBp.out.size))
  clear hb hBp
  obtain ⟨a1, a2, a3, a4, a5, a6⟩ := qa.out.facts
  have a7 := qa.out.lt
  obtain ⟨c1, c2, c3, c4, c5, c6⟩ := qc.out.facts
  have c7 := qc.out.lt
  go_wp2_with fail
  have hBp := hB
  refine (kc4.out _ (hE.out.below hBp.out).1).mono ?_
  rintro e w8 ⟨rfl, hb⟩
  clear a1 a2 a3 a4 a5 a6 a7 c1 c2 c3 c4 c5 c6 c7
  replace qa := Lib.hid (qa.out.below hb)
  replace qb := Lib.hid (qb.out.below hb)
  replace qc := Lib.hid (qc.out.below hb)
  replace hB := Lib.hid (hBp.out.trans (hb.mono hBp.out.size))
  clear hb hBp
  obtain ⟨a1, a2, a3, a4, a5, a6⟩ := qa.out.facts
  have a7 := qa.out.lt
  obtain ⟨c1, c2, c3, c4, c5, c6⟩ := qc.out.facts
  have c7 := qc.out.lt
  go_wp2_with fail
  have hBp := hB
  refine (kc5.out _ (hE.out.below hBp.out).1).mono ?_
  rintro e w9 ⟨rfl, hb⟩
  clear a1 a2 a3 a4 a5 a6 a7 c1 c2 c3 c4 c5 c6 c7
  replace qa := Lib.hid (qa.out.below hb)
  replace qb := Lib.hid (qb.out.below hb)
  replace qc := Lib.hid (qc.out.below hb)
  replace hB := Lib.hid (hBp.out.trans (hb.mono hBp.out.size))
  clear hb hBp
  obtain ⟨b1, b2, b3, b4, b5, b6⟩ := qb.out.facts
  have b7 := qb.out.lt
  obtain ⟨c1, c2, c3, c4, c5, c6⟩ := qc.out.facts
  have c7 := qc.out.lt
  go_wp2_with fail
  have hBp : Hid (Below w.heap.size w (w9.alloc (.cells #[.bool (decide (p.num < 0)), .string (T (some p.num.natAbs)), .string (T (some p.den))] 23))) := hB.out.alloc hB.out.size _
  refine (kc6.out _ (hE.out.below hBp.out).1).mono ?_
  rintro e w10 ⟨rfl, hb⟩
  clear b1 b2 b3 b4 b5 b6 b7 c1 c2 c3 c4 c5 c6 c7
  replace qa := Lib.hid ((qa.out.alloc _).below hb)
  replace qb := Lib.hid ((qb.out.alloc _).below hb)
  replace qc := Lib.hid ((qc.out.alloc _).below hb)
  have qp := Lib.hid ((B3.new w9 (decide (p.num < 0)) (T (some p.num.natAbs)) (T (some p.den))).below hb)
  replace hB := Lib.hid (hBp.out.trans (hb.mono hBp.out.size))
  clear hb hBp
  obtain ⟨p1, p2, p3, p4, p5, p6⟩ := qp.out.facts
  have p7 := qp.out.lt
  go_wp2_with fail
  have hBp : Hid (Below w.heap.size w (w10.alloc (.cells #[.bool (decide (q.num < 0)), .string (T (some q.num.natAbs)), .string (T (some q.den))] 23))) := hB.out.alloc hB.out.size _
  refine (kc7.out _ (hE.out.below hBp.out).1).mono ?_
  rintro e w11 ⟨rfl, hb⟩
  clear p1 p2 p3 p4 p5 p6 p7
  replace qa := Lib.hid ((qa.out.alloc _).below hb)
  replace qb := Lib.hid ((qb.out.alloc _).below hb)
  replace qc := Lib.hid ((qc.out.alloc _).below hb)
  replace qp := Lib.hid ((qp.out.alloc _).below hb)
  have qq := Lib.hid ((B3.new w10 (decide (q.num < 0)) (T (some q.num.natAbs)) (T (some q.den))).below hb)
  replace hB := Lib.hid (hBp.out.trans (hb.mono hBp.out.size))
  clear hb hBp
  obtain ⟨a1, a2, a3, a4, a5, a6⟩ := qa.out.facts
  have a7 := qa.out.lt
  obtain ⟨b1, b2, b3, b4, b5, b6⟩ := qb.out.facts
  have b7 := qb.out.lt
  obtain ⟨c1, c2, c3, c4, c5, c6⟩ := qc.out.facts
  have c7 := qc.out.lt
  replace zle := zle.out
  replace wgt := wgt.out
  replace neg := neg.out
  replace zer := zer.out
  go_wp2
  all_goals first | (exact absurd (qv_same (by assumption) (by assumption) (by assumption)) same.out) | (exact absurd (same_g same.out) (by assumption)) | (exact absurd (same_n same.out) (by assumption)) | (exact absurd (same_d same.out) (by assumption)) | (go_ret; exact ⟨rfl, hB.out⟩)


end Nt
end Go.Proofs.YtjahnkeafaebdaaGreatDoor
