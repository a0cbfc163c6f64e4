/- RatioMatchesReference: the walk. -/
import Derived.Test.YtjahnkeafaebdaaGreatDoorRatDuo
import Derived.Test.YtjahnkeafaebdaaGreatDoorRRef2
import Derived.Deep.RegionHeld3
namespace Go.Proofs.YtjahnkeafaebdaaGreatDoor
open Go.RowKit Go.Shelf
namespace Nt

theorem REnv.envM {w : World} (h : REnv w) : Env w := h.1
theorem fifteen {W : World} {Bo Bp Bx By Ba : Nat} {og pg xg yg ag : Bool} {on od pn pd xn xd yn yd an ad : ByteArray} (ho : B3 W Bo og on od) (hp : B3 W Bp pg pn pd) (hx : B3 W Bx xg xn xd) (hy : B3 W By yg yn yd) (ha : B3 W Ba ag an ad) :
    W.cell? ⟨Bo, 0, none⟩ = some (.bool og) ∧ W.cell? ⟨Bo, 1, none⟩ = some (.string on) ∧ W.cell? ⟨Bo, 2, none⟩ = some (.string od) ∧ W.cell? ⟨Bp, 0, none⟩ = some (.bool pg) ∧ W.cell? ⟨Bp, 1, none⟩ = some (.string pn) ∧ W.cell? ⟨Bp, 2, none⟩ = some (.string pd) ∧ W.cell? ⟨Bx, 0, none⟩ = some (.bool xg) ∧ W.cell? ⟨Bx, 1, none⟩ = some (.string xn) ∧ W.cell? ⟨Bx, 2, none⟩ = some (.string xd) ∧ W.cell? ⟨By, 0, none⟩ = some (.bool yg) ∧ W.cell? ⟨By, 1, none⟩ = some (.string yn) ∧ W.cell? ⟨By, 2, none⟩ = some (.string yd) ∧ W.cell? ⟨Ba, 0, none⟩ = some (.bool ag) ∧ W.cell? ⟨Ba, 1, none⟩ = some (.string an) ∧ W.cell? ⟨Ba, 2, none⟩ = some (.string ad) :=
  ⟨ho.facts.1, ho.facts.2.1, ho.facts.2.2.1, hp.facts.1, hp.facts.2.1, hp.facts.2.2.1, hx.facts.1, hx.facts.2.1, hx.facts.2.2.1, hy.facts.1, hy.facts.2.1, hy.facts.2.2.1, ha.facts.1, ha.facts.2.1, ha.facts.2.2.1⟩

set_option maxRecDepth 100000 in
set_option maxHeartbeats 4000000 in
theorem rmatch_bad (g1 g2 : Bool) (n1 d1 n2 d2 : ByteArray) (m n : Int) (hs : shortB 160 [(n1, d1), (n2, d2)] = false) (w : World) (hE : REnv w) :
    Calls Tryz.prog 4 #[.agg #[.bool g1, .string n1, .string d1], .agg #[.bool g2, .string n2, .string d2], .int .i64 m, .int .i64 n] w fun e w' => e = .returned (.bool true) ∧ Below w.heap.size w w' := by
  replace hE := Lib.hid hE
  replace hs := Lib.hid hs
  go_enter Tryz.func4, Tryz.ntmps4
  go_wp2_with fail
  refine (rhead_any _ (hE.out.below (duoW_below w g1 g2 n1 d1 n2 d2))).mono ?_
  rintro e w0 ⟨rfl, hb⟩
  obtain ⟨qa, qb⟩ := duoW_boxes w g1 g2 n1 d1 n2 d2
  replace qa := Lib.hid (qa.below hb)
  replace qb := Lib.hid (qb.below hb)
  have hB := Lib.hid ((duoW_below w g1 g2 n1 d1 n2 d2).trans (hb.mono (duoW_below w g1 g2 n1 d1 n2 d2).size))
  clear hb
  obtain ⟨a1, a2, a3, a4, a5, a6⟩ := qa.out.facts
  have a7 := qa.out.lt
  obtain ⟨b1, b2, b3, b4, b5, b6⟩ := qb.out.facts
  have b7 := qb.out.lt
  go_wp2_with fail
  refine (short_any 160 [(n1, d1), (n2, d2)] w0.heap.size 2 _ (by simp) (raws2 w0 g1 g2 n1 d1 n2 d2)).mono ?_
  rintro e wx ⟨rfl, rfl⟩
  rw [hs.out]
  clear a1 a2 a3 a4 a5 a6 a7 b1 b2 b3 b4 b5 b6 b7
  obtain ⟨w1, hw1⟩ : ∃ W, W = w0.alloc (.cells #[.bool g1, .string n1, .string d1, .bool g2, .string n2, .string d2] 23) := ⟨_, rfl⟩
  rw [← hw1]
  replace qa := qa.out.alloc (.cells #[.bool g1, .string n1, .string d1, .bool g2, .string n2, .string d2] 23)
  replace qb := qb.out.alloc (.cells #[.bool g1, .string n1, .string d1, .bool g2, .string n2, .string d2] 23)
  replace hB := Lib.hid (hB.out.alloc hB.out.size (.cells #[.bool g1, .string n1, .string d1, .bool g2, .string n2, .string d2] 23))
  rw [← hw1] at hB qa qb
  replace qa := Lib.hid qa
  replace qb := Lib.hid qb
  clear hw1
  go_wp2
  go_ret
  exact ⟨rfl, hB.out⟩

set_option maxRecDepth 100000 in
set_option maxHeartbeats 4000000 in
theorem rmatch_go (g1 g2 : Bool) (n1 d1 n2 d2 : ByteArray) (m n : Int) (hs : shortB 160 [(n1, d1), (n2, d2)] = true) (ro ra rs rm rd va : Bool) (so uo sa ua ss us sm um sd ud : ByteArray) (eo ea es em ed c ec i ei : Int) (w : World) (hE : REnv w)
    (ko : ∀ W, Env W → Calls Tryz.prog 11 #[.int .i64 m, .int .i64 n] W fun e w' => e = .returned (.tuple #[.agg #[.bool ro, .string so, .string uo], .int .i64 eo]) ∧ Below W.heap.size W w')
    (lo : ∀ W, Calls Tryz.prog 17 #[.int .i64 m, .int .i64 n] W fun e w' => e = .returned (.tuple #[.agg #[.bool ro, .string so, .string uo], .int .i64 eo]) ∧ Below W.heap.size W w')
    (kadd : ∀ W, Env W → Calls Tryz.prog 18 #[.agg #[.bool g1, .string n1, .string d1], .agg #[.bool g2, .string n2, .string d2]] W fun e w' => e = .returned (.tuple #[.agg #[.bool ra, .string sa, .string ua], .int .i64 ea]) ∧ Below W.heap.size W w')
    (ladd : ∀ W, Calls Tryz.prog 19 #[.agg #[.bool g1, .string n1, .string d1], .agg #[.bool g2, .string n2, .string d2]] W fun e w' => e = .returned (.tuple #[.agg #[.bool ra, .string sa, .string ua], .int .i64 ea]) ∧ Below W.heap.size W w')
    (ksub : ∀ W, Env W → Calls Tryz.prog 21 #[.agg #[.bool g1, .string n1, .string d1], .agg #[.bool g2, .string n2, .string d2]] W fun e w' => e = .returned (.tuple #[.agg #[.bool rs, .string ss, .string us], .int .i64 es]) ∧ Below W.heap.size W w')
    (lsub : ∀ W, Calls Tryz.prog 22 #[.agg #[.bool g1, .string n1, .string d1], .agg #[.bool g2, .string n2, .string d2]] W fun e w' => e = .returned (.tuple #[.agg #[.bool rs, .string ss, .string us], .int .i64 es]) ∧ Below W.heap.size W w')
    (kmul : ∀ W, Env W → Calls Tryz.prog 23 #[.agg #[.bool g1, .string n1, .string d1], .agg #[.bool g2, .string n2, .string d2]] W fun e w' => e = .returned (.tuple #[.agg #[.bool rm, .string sm, .string um], .int .i64 em]) ∧ Below W.heap.size W w')
    (lmul : ∀ W, Calls Tryz.prog 24 #[.agg #[.bool g1, .string n1, .string d1], .agg #[.bool g2, .string n2, .string d2]] W fun e w' => e = .returned (.tuple #[.agg #[.bool rm, .string sm, .string um], .int .i64 em]) ∧ Below W.heap.size W w')
    (kdiv : ∀ W, Env W → Calls Tryz.prog 25 #[.agg #[.bool g1, .string n1, .string d1], .agg #[.bool g2, .string n2, .string d2]] W fun e w' => e = .returned (.tuple #[.agg #[.bool rd, .string sd, .string ud], .int .i64 ed]) ∧ Below W.heap.size W w')
    (ldiv : ∀ W, Calls Tryz.prog 26 #[.agg #[.bool g1, .string n1, .string d1], .agg #[.bool g2, .string n2, .string d2]] W fun e w' => e = .returned (.tuple #[.agg #[.bool rd, .string sd, .string ud], .int .i64 ed]) ∧ Below W.heap.size W w')
    (kc : ∀ W, Env W → Calls Tryz.prog 16 #[.agg #[.bool g1, .string n1, .string d1], .agg #[.bool g2, .string n2, .string d2]] W fun e w' => e = .returned (.tuple #[.int .i64 c, .int .i64 ec]) ∧ Below W.heap.size W w')
    (lc : ∀ W, Calls Tryz.prog 27 #[.agg #[.bool g1, .string n1, .string d1], .agg #[.bool g2, .string n2, .string d2]] W fun e w' => e = .returned (.tuple #[.int .i64 c, .int .i64 ec]) ∧ Below W.heap.size W w')
    (kf : ∀ W, Env W → Calls Tryz.prog 12 #[.agg #[.bool g1, .string n1, .string d1]] W fun e w' => e = .returned (.tuple #[.int .i64 i, .int .i64 ei]) ∧ Below W.heap.size W w')
    (lf : ∀ W, Calls Tryz.prog 28 #[.agg #[.bool g1, .string n1, .string d1]] W fun e w' => e = .returned (.tuple #[.int .i64 i, .int .i64 ei]) ∧ Below W.heap.size W w')
    (kv : ∀ W, Env W → Calls Tryz.prog 14 #[.agg #[.bool g1, .string n1, .string d1]] W fun e w' => e = .returned (.bool va) ∧ Below W.heap.size W w')
    (lv : ∀ W, Calls Tryz.prog 20 #[.agg #[.bool g1, .string n1, .string d1]] W fun e w' => e = .returned (.bool va) ∧ Below W.heap.size W w') :
    Calls Tryz.prog 4 #[.agg #[.bool g1, .string n1, .string d1], .agg #[.bool g2, .string n2, .string d2], .int .i64 m, .int .i64 n] w fun e w' => e = .returned (.bool true) ∧ Below w.heap.size w w' := by
  replace hE := Lib.hid hE
  replace hs := Lib.hid hs
  replace ko := Lib.hid ko
  replace lo := Lib.hid lo
  replace kadd := Lib.hid kadd
  replace ladd := Lib.hid ladd
  replace ksub := Lib.hid ksub
  replace lsub := Lib.hid lsub
  replace kmul := Lib.hid kmul
  replace lmul := Lib.hid lmul
  replace kdiv := Lib.hid kdiv
  replace ldiv := Lib.hid ldiv
  replace kc := Lib.hid kc
  replace lc := Lib.hid lc
  replace kf := Lib.hid kf
  replace lf := Lib.hid lf
  replace kv := Lib.hid kv
  replace lv := Lib.hid lv
  go_enter Tryz.func4, Tryz.ntmps4
  go_wp2_with fail
  refine (rhead_any _ (hE.out.below (duoW_below w g1 g2 n1 d1 n2 d2))).mono ?_
  rintro e w0 ⟨rfl, hb⟩
  obtain ⟨qa, qb⟩ := duoW_boxes w g1 g2 n1 d1 n2 d2
  replace qa := Lib.hid (qa.below hb)
  replace qb := Lib.hid (qb.below hb)
  have hB := Lib.hid ((duoW_below w g1 g2 n1 d1 n2 d2).trans (hb.mono (duoW_below w g1 g2 n1 d1 n2 d2).size))
  clear hb
  obtain ⟨a1, a2, a3, a4, a5, a6⟩ := qa.out.facts
  have a7 := qa.out.lt
  obtain ⟨b1, b2, b3, b4, b5, b6⟩ := qb.out.facts
  have b7 := qb.out.lt
  go_wp2_with fail
  refine (short_any 160 [(n1, d1), (n2, d2)] w0.heap.size 2 _ (by simp) (raws2 w0 g1 g2 n1 d1 n2 d2)).mono ?_
  rintro e wx ⟨rfl, rfl⟩
  rw [hs.out]
  clear a1 a2 a3 a4 a5 a6 a7 b1 b2 b3 b4 b5 b6 b7
  obtain ⟨w1, hw1⟩ : ∃ W, W = w0.alloc (.cells #[.bool g1, .string n1, .string d1, .bool g2, .string n2, .string d2] 23) := ⟨_, rfl⟩
  rw [← hw1]
  replace qa := qa.out.alloc (.cells #[.bool g1, .string n1, .string d1, .bool g2, .string n2, .string d2] 23)
  replace qb := qb.out.alloc (.cells #[.bool g1, .string n1, .string d1, .bool g2, .string n2, .string d2] 23)
  replace hB := Lib.hid (hB.out.alloc hB.out.size (.cells #[.bool g1, .string n1, .string d1, .bool g2, .string n2, .string d2] 23))
  rw [← hw1] at hB qa qb
  replace qa := Lib.hid qa
  replace qb := Lib.hid qb
  clear hw1
  go_wp2_with fail
  have hBp : Hid (Below w.heap.size w w1) := hB.out
  refine (ko.out _ (hE.out.below hBp.out).1).mono ?_
  rintro e w2 ⟨rfl, hb⟩
  replace qa := Lib.hid (qa.out.below hb)
  replace qb := Lib.hid (qb.out.below hb)
  replace hB := Lib.hid (hBp.out.trans (hb.mono hBp.out.size))
  clear hb hBp
  go_wp2_with fail
  have hBp : Hid (Below w.heap.size w (w2.alloc (.cells #[.bool ro, .string so, .string uo] 23))) := (hB.out.alloc hB.out.size _)
  refine (lo.out _).mono ?_
  rintro e w3 ⟨rfl, hb⟩
  replace qa := Lib.hid ((qa.out.alloc _).below hb)
  replace qb := Lib.hid ((qb.out.alloc _).below hb)
  have qo := Lib.hid ((B3.new w2 ro so uo).below hb)
  replace hB := Lib.hid (hBp.out.trans (hb.mono hBp.out.size))
  clear hb hBp
  obtain ⟨a1, a2, a3, a4, a5, a6⟩ := qa.out.facts
  have a7 := qa.out.lt
  obtain ⟨b1, b2, b3, b4, b5, b6⟩ := qb.out.facts
  have b7 := qb.out.lt
  go_wp2_with fail
  have hBp : Hid (Below w.heap.size w (w3.alloc (.cells #[.bool ro, .string so, .string uo] 23))) := (hB.out.alloc hB.out.size _)
  refine (kadd.out _ (hE.out.below hBp.out).1).mono ?_
  rintro e w4 ⟨rfl, hb⟩
  clear a1 a2 a3 a4 a5 a6 a7 b1 b2 b3 b4 b5 b6 b7
  replace qa := Lib.hid ((qa.out.alloc _).below hb)
  replace qb := Lib.hid ((qb.out.alloc _).below hb)
  replace qo := Lib.hid ((qo.out.alloc _).below hb)
  have qp := Lib.hid ((B3.new w3 ro so uo).below hb)
  replace hB := Lib.hid (hBp.out.trans (hb.mono hBp.out.size))
  clear hb hBp
  obtain ⟨a1, a2, a3, a4, a5, a6⟩ := qa.out.facts
  have a7 := qa.out.lt
  obtain ⟨b1, b2, b3, b4, b5, b6⟩ := qb.out.facts
  have b7 := qb.out.lt
  go_wp2_with fail
  have hBp : Hid (Below w.heap.size w (w4.alloc (.cells #[.bool ra, .string sa, .string ua] 23))) := (hB.out.alloc hB.out.size _)
  refine (ladd.out _).mono ?_
  rintro e w5 ⟨rfl, hb⟩
  clear a1 a2 a3 a4 a5 a6 a7 b1 b2 b3 b4 b5 b6 b7
  have ne_a_x : Hid (w.heap.size ≠ w4.heap.size) := Nat.ne_of_lt qa.out.lt
  have ne_b_x : Hid ((w.heap.size + 1) ≠ w4.heap.size) := Nat.ne_of_lt qb.out.lt
  have ne_o_x : Hid (w2.heap.size ≠ w4.heap.size) := Nat.ne_of_lt qo.out.lt
  have ne_p_x : Hid (w3.heap.size ≠ w4.heap.size) := Nat.ne_of_lt qp.out.lt
  have lo_x : Hid (w.heap.size ≤ w4.heap.size) := hB.out.size
  replace qa := Lib.hid ((qa.out.alloc _).below hb)
  replace qb := Lib.hid ((qb.out.alloc _).below hb)
  replace qo := Lib.hid ((qo.out.alloc _).below hb)
  replace qp := Lib.hid ((qp.out.alloc _).below hb)
  have qx := Lib.hid ((B3.new w4 ra sa ua).below hb)
  replace hB := Lib.hid (hBp.out.trans (hb.mono hBp.out.size))
  clear hb hBp
  obtain ⟨o1, o2, o3, o4, o5, o6⟩ := qo.out.facts
  have o7 := qo.out.lt
  obtain ⟨p1, p2, p3, p4, p5, p6⟩ := qp.out.facts
  have p7 := qp.out.lt
  obtain ⟨x1, x2, x3, x4, x5, x6⟩ := qx.out.facts
  have x7 := qx.out.lt
  obtain ⟨a1, a2, a3, a4, a5, a6⟩ := qa.out.facts
  have a7 := qa.out.lt
  go_wp2_with fail
  have ne_y_x : Hid (w5.heap.size ≠ w4.heap.size) := Nat.ne_of_gt qx.out.lt
  have ne_a_y : Hid (w.heap.size ≠ w5.heap.size) := Nat.ne_of_lt qa.out.lt
  have ne_b_y : Hid ((w.heap.size + 1) ≠ w5.heap.size) := Nat.ne_of_lt qb.out.lt
  have ne_o_y : Hid (w2.heap.size ≠ w5.heap.size) := Nat.ne_of_lt qo.out.lt
  have ne_p_y : Hid (w3.heap.size ≠ w5.heap.size) := Nat.ne_of_lt qp.out.lt
  have ne_x_y : Hid (w4.heap.size ≠ w5.heap.size) := Nat.ne_of_lt qx.out.lt
  have lo_y : Hid (w.heap.size ≤ w5.heap.size) := hB.out.size
  have hBy : Hid (Below w.heap.size w (w5.alloc (.cells #[.bool ra, .string sa, .string ua] 23))) := (hB.out.alloc hB.out.size _)
  obtain ⟨wy, hwy⟩ : ∃ W, W = (w5.alloc (.cells #[.bool ra, .string sa, .string ua] 23)) := ⟨_, rfl⟩
  clear o1 o2 o3 o4 o5 o6 o7 p1 p2 p3 p4 p5 p6 p7 x1 x2 x3 x4 x5 x6 x7 a1 a2 a3 a4 a5 a6 a7
  replace qa : Hid (B3 wy w.heap.size g1 n1 d1) := by rw [hwy]; exact (qa.out.alloc _)
  replace qb : Hid (B3 wy (w.heap.size + 1) g2 n2 d2) := by rw [hwy]; exact (qb.out.alloc _)
  replace qo : Hid (B3 wy w2.heap.size ro so uo) := by rw [hwy]; exact (qo.out.alloc _)
  replace qp : Hid (B3 wy w3.heap.size ro so uo) := by rw [hwy]; exact (qp.out.alloc _)
  replace qx : Hid (B3 wy w4.heap.size ra sa ua) := by rw [hwy]; exact (qx.out.alloc _)
  have qy : Hid (B3 wy w5.heap.size ra sa ua) := by rw [hwy]; exact (B3.new w5 ra sa ua)
  replace hB : Hid (Below w.heap.size w wy) := by rw [hwy]; exact hBy.out
  rw [← hwy]
  clear hwy hBy
  have Qra : Hid (B3 wy.drew w.heap.size g1 n1 d1) := qa.out
  have Qrb : Hid (B3 wy.drew (w.heap.size + 1) g2 n2 d2) := qb.out
  have Qro : Hid (B3 wy.drew w2.heap.size ro so uo) := qo.out
  have Qrp : Hid (B3 wy.drew w3.heap.size ro so uo) := qp.out
  have Qrx : Hid (B3 wy.drew w4.heap.size ra sa ua) := qx.out
  have Qry : Hid (B3 wy.drew w5.heap.size ra sa ua) := qy.out
  have hBr : Hid (Below w.heap.size w wy.drew) := hB.out.drew
  obtain ⟨o1, o2, o3, o4, o5, o6⟩ := qo.out.facts
  have o7 := qo.out.lt
  obtain ⟨p1, p2, p3, p4, p5, p6⟩ := qp.out.facts
  have p7 := qp.out.lt
  obtain ⟨x1, x2, x3, x4, x5, x6⟩ := qx.out.facts
  have x7 := qx.out.lt
  obtain ⟨y1, y2, y3, y4, y5, y6⟩ := qy.out.facts
  have y7 := qy.out.lt
  obtain ⟨a1, a2, a3, a4, a5, a6⟩ := qa.out.facts
  have a7 := qa.out.lt
  go_region_held3 (fun w' => w'.cell? ⟨w2.heap.size, 0, none⟩ = some (.bool ro) ∧ w'.cell? ⟨w2.heap.size, 1, none⟩ = some (.string so) ∧ w'.cell? ⟨w2.heap.size, 2, none⟩ = some (.string uo) ∧ w'.cell? ⟨w3.heap.size, 0, none⟩ = some (.bool ro) ∧ w'.cell? ⟨w3.heap.size, 1, none⟩ = some (.string so) ∧ w'.cell? ⟨w3.heap.size, 2, none⟩ = some (.string uo) ∧ w'.cell? ⟨w4.heap.size, 0, none⟩ = some (.bool ra) ∧ w'.cell? ⟨w4.heap.size, 1, none⟩ = some (.string sa) ∧ w'.cell? ⟨w4.heap.size, 2, none⟩ = some (.string ua) ∧ w'.cell? ⟨w5.heap.size, 0, none⟩ = some (.bool ra) ∧ w'.cell? ⟨w5.heap.size, 1, none⟩ = some (.string sa) ∧ w'.cell? ⟨w5.heap.size, 2, none⟩ = some (.string ua) ∧ w'.cell? ⟨w.heap.size, 0, none⟩ = some (.bool g1) ∧ w'.cell? ⟨w.heap.size, 1, none⟩ = some (.string n1) ∧ w'.cell? ⟨w.heap.size, 2, none⟩ = some (.string d1)) (first | (with_reducible exact (fifteen qo.out qp.out qx.out qy.out qa.out)) | (with_reducible exact (fifteen Qro.out Qrp.out Qrx.out Qry.out Qra.out)) | (with_reducible exact (fifteen Qso.out Qsp.out Qsx.out Qsy.out Qsa.out)) | (with_reducible exact (fifteen Qto.out Qtp.out Qtx.out Qty.out Qta.out)) | go_keep)
    (first
      | (go_at_call 14; refine (kv.out _ ?_).mono ?_; (with_reducible exact (hE.out.below hBr.out).envM); rintro e ws ⟨rfl, hb⟩; have Qsa := Lib.hid (Qra.out.below hb); have Qsb := Lib.hid (Qrb.out.below hb); have Qso := Lib.hid (Qro.out.below hb); have Qsp := Lib.hid (Qrp.out.below hb); have Qsx := Lib.hid (Qrx.out.below hb); have Qsy := Lib.hid (Qry.out.below hb); have hs1 := Lib.hid (hBr.out.trans (hb.mono hBr.out.size)); clear hb)
      | (go_at_call 14; refine (kv.out _ ?_).mono ?_; (with_reducible exact (hE.out.below hs1.out).envM); rintro e w6 ⟨rfl, hb⟩; have Qta := Lib.hid (Qsa.out.below hb); have Qtb := Lib.hid (Qsb.out.below hb); have Qto := Lib.hid (Qso.out.below hb); have Qtp := Lib.hid (Qsp.out.below hb); have Qtx := Lib.hid (Qsx.out.below hb); have Qty := Lib.hid (Qsy.out.below hb); have ht1 := Lib.hid (hs1.out.trans (hb.mono hs1.out.size)); clear hb)
      | (go_at_call 20; with_reducible refine (lv.out wy.drew).mono ?_; rintro e ws ⟨rfl, hb⟩; have Qsa := Lib.hid (Qra.out.below hb); have Qsb := Lib.hid (Qrb.out.below hb); have Qso := Lib.hid (Qro.out.below hb); have Qsp := Lib.hid (Qrp.out.below hb); have Qsx := Lib.hid (Qrx.out.below hb); have Qsy := Lib.hid (Qry.out.below hb); have hs1 := Lib.hid (hBr.out.trans (hb.mono hBr.out.size)); clear hb)
      | (go_at_call 20; with_reducible refine (lv.out ws).mono ?_; rintro e w6 ⟨rfl, hb⟩; have Qta := Lib.hid (Qsa.out.below hb); have Qtb := Lib.hid (Qsb.out.below hb); have Qto := Lib.hid (Qso.out.below hb); have Qtp := Lib.hid (Qsp.out.below hb); have Qtx := Lib.hid (Qsx.out.below hb); have Qty := Lib.hid (Qsy.out.below hb); have ht1 := Lib.hid (hs1.out.trans (hb.mono hs1.out.size)); clear hb))
  all_goals (
    replace qa := Qta
    replace qb := Qtb
    replace qo := Qto
    replace qp := Qtp
    replace qx := Qtx
    replace qy := Qty
    replace hB := ht1
    clear Qra Qsa Qta Qrb Qsb Qtb Qro Qso Qto Qrp Qsp Qtp Qrx Qsx Qtx Qry Qsy Qty hBr hs1 ht1
    skip
    skip
    obtain ⟨a1, a2, a3, a4, a5, a6⟩ := qa.out.facts
    have a7 := qa.out.lt
    obtain ⟨b1, b2, b3, b4, b5, b6⟩ := qb.out.facts
    have b7 := qb.out.lt
    go_wp2_with fail
    have hBp : Hid (Below w.heap.size w w6) := hB.out
    refine (ksub.out _ (hE.out.below hBp.out).1).mono ?_
    rintro e w7 ⟨rfl, hb⟩
    clear a1 a2 a3 a4 a5 a6 a7 b1 b2 b3 b4 b5 b6 b7
    replace qa := Lib.hid (qa.out.below hb)
    replace qb := Lib.hid (qb.out.below hb)
    replace qo := Lib.hid (qo.out.below hb)
    replace qp := Lib.hid (qp.out.below hb)
    replace qx := Lib.hid (qx.out.below hb)
    replace qy := Lib.hid (qy.out.below hb)
    replace hB := Lib.hid (hBp.out.trans (hb.mono hBp.out.size))
    clear hb hBp
    obtain ⟨a1, a2, a3, a4, a5, a6⟩ := qa.out.facts
    have a7 := qa.out.lt
    obtain ⟨b1, b2, b3, b4, b5, b6⟩ := qb.out.facts
    have b7 := qb.out.lt
    obtain ⟨x1, x2, x3, x4, x5, x6⟩ := qx.out.facts
    have x7 := qx.out.lt
    have no_a_x := ne_a_x.out
    have np_a_x := ne_a_x.out.symm
    have no_b_x := ne_b_x.out
    have np_b_x := ne_b_x.out.symm
    go_wp2_with fail
    clear no_a_x np_a_x no_b_x np_b_x
    have hBp : Hid (Below w.heap.size w (((w7.setCell ⟨w4.heap.size, 0, none⟩ (.bool rs)).setCell ⟨w4.heap.size, 1, none⟩ (.string ss)).setCell ⟨w4.heap.size, 2, none⟩ (.string us))) := (((hB.out.setCell lo_x.out _).setCell lo_x.out _).setCell lo_x.out _)
    refine (lsub.out _).mono ?_
    rintro e w8 ⟨rfl, hb⟩
    clear a1 a2 a3 a4 a5 a6 a7 b1 b2 b3 b4 b5 b6 b7 x1 x2 x3 x4 x5 x6 x7
    replace qa := Lib.hid ((((qa.out.other ne_a_x.out _).other ne_a_x.out _).other ne_a_x.out _).below hb)
    replace qb := Lib.hid ((((qb.out.other ne_b_x.out _).other ne_b_x.out _).other ne_b_x.out _).below hb)
    replace qo := Lib.hid ((((qo.out.other ne_o_x.out _).other ne_o_x.out _).other ne_o_x.out _).below hb)
    replace qp := Lib.hid ((((qp.out.other ne_p_x.out _).other ne_p_x.out _).other ne_p_x.out _).below hb)
    replace qx := Lib.hid ((((qx.out.set0 rs).set1 ss).set2 us).below hb)
    replace qy := Lib.hid ((((qy.out.other ne_y_x.out _).other ne_y_x.out _).other ne_y_x.out _).below hb)
    replace hB := Lib.hid (hBp.out.trans (hb.mono hBp.out.size))
    clear hb hBp
    obtain ⟨a1, a2, a3, a4, a5, a6⟩ := qa.out.facts
    have a7 := qa.out.lt
    obtain ⟨b1, b2, b3, b4, b5, b6⟩ := qb.out.facts
    have b7 := qb.out.lt
    obtain ⟨x1, x2, x3, x4, x5, x6⟩ := qx.out.facts
    have x7 := qx.out.lt
    obtain ⟨y1, y2, y3, y4, y5, y6⟩ := qy.out.facts
    have y7 := qy.out.lt
    have no_a_y := ne_a_y.out
    have np_a_y := ne_a_y.out.symm
    have no_b_y := ne_b_y.out
    have np_b_y := ne_b_y.out.symm
    have no_x_y := ne_x_y.out
    have np_x_y := ne_x_y.out.symm
    go_wp2_with fail
    clear no_a_y np_a_y no_b_y np_b_y no_x_y np_x_y
    have hBp : Hid (Below w.heap.size w (((w8.setCell ⟨w5.heap.size, 0, none⟩ (.bool rs)).setCell ⟨w5.heap.size, 1, none⟩ (.string ss)).setCell ⟨w5.heap.size, 2, none⟩ (.string us))) := (((hB.out.setCell lo_y.out _).setCell lo_y.out _).setCell lo_y.out _)
    refine (kmul.out _ (hE.out.below hBp.out).1).mono ?_
    rintro e w9 ⟨rfl, hb⟩
    clear a1 a2 a3 a4 a5 a6 a7 b1 b2 b3 b4 b5 b6 b7 x1 x2 x3 x4 x5 x6 x7 y1 y2 y3 y4 y5 y6 y7
    replace qa := Lib.hid ((((qa.out.other ne_a_y.out _).other ne_a_y.out _).other ne_a_y.out _).below hb)
    replace qb := Lib.hid ((((qb.out.other ne_b_y.out _).other ne_b_y.out _).other ne_b_y.out _).below hb)
    replace qo := Lib.hid ((((qo.out.other ne_o_y.out _).other ne_o_y.out _).other ne_o_y.out _).below hb)
    replace qp := Lib.hid ((((qp.out.other ne_p_y.out _).other ne_p_y.out _).other ne_p_y.out _).below hb)
    replace qx := Lib.hid ((((qx.out.other ne_x_y.out _).other ne_x_y.out _).other ne_x_y.out _).below hb)
    replace qy := Lib.hid ((((qy.out.set0 rs).set1 ss).set2 us).below hb)
    replace hB := Lib.hid (hBp.out.trans (hb.mono hBp.out.size))
    clear hb hBp
    obtain ⟨a1, a2, a3, a4, a5, a6⟩ := qa.out.facts
    have a7 := qa.out.lt
    obtain ⟨b1, b2, b3, b4, b5, b6⟩ := qb.out.facts
    have b7 := qb.out.lt
    obtain ⟨x1, x2, x3, x4, x5, x6⟩ := qx.out.facts
    have x7 := qx.out.lt
    have no_a_x := ne_a_x.out
    have np_a_x := ne_a_x.out.symm
    have no_b_x := ne_b_x.out
    have np_b_x := ne_b_x.out.symm
    go_wp2_with fail
    clear no_a_x np_a_x no_b_x np_b_x
    have hBp : Hid (Below w.heap.size w (((w9.setCell ⟨w4.heap.size, 0, none⟩ (.bool rm)).setCell ⟨w4.heap.size, 1, none⟩ (.string sm)).setCell ⟨w4.heap.size, 2, none⟩ (.string um))) := (((hB.out.setCell lo_x.out _).setCell lo_x.out _).setCell lo_x.out _)
    refine (lmul.out _).mono ?_
    rintro e w10 ⟨rfl, hb⟩
    clear a1 a2 a3 a4 a5 a6 a7 b1 b2 b3 b4 b5 b6 b7 x1 x2 x3 x4 x5 x6 x7
    replace qa := Lib.hid ((((qa.out.other ne_a_x.out _).other ne_a_x.out _).other ne_a_x.out _).below hb)
    replace qb := Lib.hid ((((qb.out.other ne_b_x.out _).other ne_b_x.out _).other ne_b_x.out _).below hb)
    replace qo := Lib.hid ((((qo.out.other ne_o_x.out _).other ne_o_x.out _).other ne_o_x.out _).below hb)
    replace qp := Lib.hid ((((qp.out.other ne_p_x.out _).other ne_p_x.out _).other ne_p_x.out _).below hb)
    replace qx := Lib.hid ((((qx.out.set0 rm).set1 sm).set2 um).below hb)
    replace qy := Lib.hid ((((qy.out.other ne_y_x.out _).other ne_y_x.out _).other ne_y_x.out _).below hb)
    replace hB := Lib.hid (hBp.out.trans (hb.mono hBp.out.size))
    clear hb hBp
    obtain ⟨a1, a2, a3, a4, a5, a6⟩ := qa.out.facts
    have a7 := qa.out.lt
    obtain ⟨b1, b2, b3, b4, b5, b6⟩ := qb.out.facts
    have b7 := qb.out.lt
    obtain ⟨x1, x2, x3, x4, x5, x6⟩ := qx.out.facts
    have x7 := qx.out.lt
    obtain ⟨y1, y2, y3, y4, y5, y6⟩ := qy.out.facts
    have y7 := qy.out.lt
    have no_a_y := ne_a_y.out
    have np_a_y := ne_a_y.out.symm
    have no_b_y := ne_b_y.out
    have np_b_y := ne_b_y.out.symm
    have no_x_y := ne_x_y.out
    have np_x_y := ne_x_y.out.symm
    go_wp2_with fail
    clear no_a_y np_a_y no_b_y np_b_y no_x_y np_x_y
    have hBp : Hid (Below w.heap.size w (((w10.setCell ⟨w5.heap.size, 0, none⟩ (.bool rm)).setCell ⟨w5.heap.size, 1, none⟩ (.string sm)).setCell ⟨w5.heap.size, 2, none⟩ (.string um))) := (((hB.out.setCell lo_y.out _).setCell lo_y.out _).setCell lo_y.out _)
    refine (kdiv.out _ (hE.out.below hBp.out).1).mono ?_
    rintro e w11 ⟨rfl, hb⟩
    clear a1 a2 a3 a4 a5 a6 a7 b1 b2 b3 b4 b5 b6 b7 x1 x2 x3 x4 x5 x6 x7 y1 y2 y3 y4 y5 y6 y7
    replace qa := Lib.hid ((((qa.out.other ne_a_y.out _).other ne_a_y.out _).other ne_a_y.out _).below hb)
    replace qb := Lib.hid ((((qb.out.other ne_b_y.out _).other ne_b_y.out _).other ne_b_y.out _).below hb)
    replace qo := Lib.hid ((((qo.out.other ne_o_y.out _).other ne_o_y.out _).other ne_o_y.out _).below hb)
    replace qp := Lib.hid ((((qp.out.other ne_p_y.out _).other ne_p_y.out _).other ne_p_y.out _).below hb)
    replace qx := Lib.hid ((((qx.out.other ne_x_y.out _).other ne_x_y.out _).other ne_x_y.out _).below hb)
    replace qy := Lib.hid ((((qy.out.set0 rm).set1 sm).set2 um).below hb)
    replace hB := Lib.hid (hBp.out.trans (hb.mono hBp.out.size))
    clear hb hBp
    obtain ⟨a1, a2, a3, a4, a5, a6⟩ := qa.out.facts
    have a7 := qa.out.lt
    obtain ⟨b1, b2, b3, b4, b5, b6⟩ := qb.out.facts
    have b7 := qb.out.lt
    obtain ⟨x1, x2, x3, x4, x5, x6⟩ := qx.out.facts
    have x7 := qx.out.lt
    have no_a_x := ne_a_x.out
    have np_a_x := ne_a_x.out.symm
    have no_b_x := ne_b_x.out
    have np_b_x := ne_b_x.out.symm
    go_wp2_with fail
    clear no_a_x np_a_x no_b_x np_b_x
    have hBp : Hid (Below w.heap.size w (((w11.setCell ⟨w4.heap.size, 0, none⟩ (.bool rd)).setCell ⟨w4.heap.size, 1, none⟩ (.string sd)).setCell ⟨w4.heap.size, 2, none⟩ (.string ud))) := (((hB.out.setCell lo_x.out _).setCell lo_x.out _).setCell lo_x.out _)
    refine (ldiv.out _).mono ?_
    rintro e w12 ⟨rfl, hb⟩
    clear a1 a2 a3 a4 a5 a6 a7 b1 b2 b3 b4 b5 b6 b7 x1 x2 x3 x4 x5 x6 x7
    replace qa := Lib.hid ((((qa.out.other ne_a_x.out _).other ne_a_x.out _).other ne_a_x.out _).below hb)
    replace qb := Lib.hid ((((qb.out.other ne_b_x.out _).other ne_b_x.out _).other ne_b_x.out _).below hb)
    replace qo := Lib.hid ((((qo.out.other ne_o_x.out _).other ne_o_x.out _).other ne_o_x.out _).below hb)
    replace qp := Lib.hid ((((qp.out.other ne_p_x.out _).other ne_p_x.out _).other ne_p_x.out _).below hb)
    replace qx := Lib.hid ((((qx.out.set0 rd).set1 sd).set2 ud).below hb)
    replace qy := Lib.hid ((((qy.out.other ne_y_x.out _).other ne_y_x.out _).other ne_y_x.out _).below hb)
    replace hB := Lib.hid (hBp.out.trans (hb.mono hBp.out.size))
    clear hb hBp
    obtain ⟨a1, a2, a3, a4, a5, a6⟩ := qa.out.facts
    have a7 := qa.out.lt
    obtain ⟨b1, b2, b3, b4, b5, b6⟩ := qb.out.facts
    have b7 := qb.out.lt
    obtain ⟨x1, x2, x3, x4, x5, x6⟩ := qx.out.facts
    have x7 := qx.out.lt
    obtain ⟨y1, y2, y3, y4, y5, y6⟩ := qy.out.facts
    have y7 := qy.out.lt
    have no_a_y := ne_a_y.out
    have np_a_y := ne_a_y.out.symm
    have no_b_y := ne_b_y.out
    have np_b_y := ne_b_y.out.symm
    have no_x_y := ne_x_y.out
    have np_x_y := ne_x_y.out.symm
    go_wp2_with fail
    clear no_a_y np_a_y no_b_y np_b_y no_x_y np_x_y
    have hBp : Hid (Below w.heap.size w (((w12.setCell ⟨w5.heap.size, 0, none⟩ (.bool rd)).setCell ⟨w5.heap.size, 1, none⟩ (.string sd)).setCell ⟨w5.heap.size, 2, none⟩ (.string ud))) := (((hB.out.setCell lo_y.out _).setCell lo_y.out _).setCell lo_y.out _)
    refine (kc.out _ (hE.out.below hBp.out).1).mono ?_
    rintro e w13 ⟨rfl, hb⟩
    clear a1 a2 a3 a4 a5 a6 a7 b1 b2 b3 b4 b5 b6 b7 x1 x2 x3 x4 x5 x6 x7 y1 y2 y3 y4 y5 y6 y7
    replace qa := Lib.hid ((((qa.out.other ne_a_y.out _).other ne_a_y.out _).other ne_a_y.out _).below hb)
    replace qb := Lib.hid ((((qb.out.other ne_b_y.out _).other ne_b_y.out _).other ne_b_y.out _).below hb)
    replace qo := Lib.hid ((((qo.out.other ne_o_y.out _).other ne_o_y.out _).other ne_o_y.out _).below hb)
    replace qp := Lib.hid ((((qp.out.other ne_p_y.out _).other ne_p_y.out _).other ne_p_y.out _).below hb)
    replace qx := Lib.hid ((((qx.out.other ne_x_y.out _).other ne_x_y.out _).other ne_x_y.out _).below hb)
    replace qy := Lib.hid ((((qy.out.set0 rd).set1 sd).set2 ud).below hb)
    replace hB := Lib.hid (hBp.out.trans (hb.mono hBp.out.size))
    clear hb hBp
    obtain ⟨a1, a2, a3, a4, a5, a6⟩ := qa.out.facts
    have a7 := qa.out.lt
    obtain ⟨b1, b2, b3, b4, b5, b6⟩ := qb.out.facts
    have b7 := qb.out.lt
    go_wp2_with fail
    have hBp : Hid (Below w.heap.size w w13) := hB.out
    refine (lc.out _).mono ?_
    rintro e w14 ⟨rfl, hb⟩
    clear a1 a2 a3 a4 a5 a6 a7 b1 b2 b3 b4 b5 b6 b7
    replace qa := Lib.hid (qa.out.below hb)
    replace qb := Lib.hid (qb.out.below hb)
    replace qo := Lib.hid (qo.out.below hb)
    replace qp := Lib.hid (qp.out.below hb)
    replace qx := Lib.hid (qx.out.below hb)
    replace qy := Lib.hid (qy.out.below hb)
    replace hB := Lib.hid (hBp.out.trans (hb.mono hBp.out.size))
    clear hb hBp
    obtain ⟨a1, a2, a3, a4, a5, a6⟩ := qa.out.facts
    have a7 := qa.out.lt
    go_wp2_with fail
    have hBp : Hid (Below w.heap.size w w14) := hB.out
    refine (kf.out _ (hE.out.below hBp.out).1).mono ?_
    rintro e w15 ⟨rfl, hb⟩
    clear a1 a2 a3 a4 a5 a6 a7
    replace qa := Lib.hid (qa.out.below hb)
    replace qb := Lib.hid (qb.out.below hb)
    replace qo := Lib.hid (qo.out.below hb)
    replace qp := Lib.hid (qp.out.below hb)
    replace qx := Lib.hid (qx.out.below hb)
    replace qy := Lib.hid (qy.out.below hb)
    replace hB := Lib.hid (hBp.out.trans (hb.mono hBp.out.size))
    clear hb hBp
    obtain ⟨a1, a2, a3, a4, a5, a6⟩ := qa.out.facts
    have a7 := qa.out.lt
    go_wp2_with fail
    have hBp : Hid (Below w.heap.size w w15) := hB.out
    refine (lf.out _).mono ?_
    rintro e w16 ⟨rfl, hb⟩
    clear a1 a2 a3 a4 a5 a6 a7
    replace qa := Lib.hid (qa.out.below hb)
    replace qb := Lib.hid (qb.out.below hb)
    replace qo := Lib.hid (qo.out.below hb)
    replace qp := Lib.hid (qp.out.below hb)
    replace qx := Lib.hid (qx.out.below hb)
    replace qy := Lib.hid (qy.out.below hb)
    replace hB := Lib.hid (hBp.out.trans (hb.mono hBp.out.size))
    clear hb hBp
    go_wp2
    go_ret
    exact ⟨rfl, hB.out⟩
  )

theorem rmatch_any (g1 g2 : Bool) (n1 d1 n2 d2 : ByteArray) (m n : Int) (hm0 : -9223372036854775808 ≤ m) (hm1 : m ≤ 9223372036854775807) (hn0 : -9223372036854775808 ≤ n) (hn1 : n ≤ 9223372036854775807) (w : World) (hE : REnv w) :
    Calls Tryz.prog 4 #[.agg #[.bool g1, .string n1, .string d1], .agg #[.bool g2, .string n2, .string d2], .int .i64 m, .int .i64 n] w fun e w' => e = .returned (.bool true) ∧ Below w.heap.size w w' := by
  cases hs : shortB 160 [(n1, d1), (n2, d2)] with
  | false => exact rmatch_bad g1 g2 n1 d1 n2 d2 m n hs w hE
  | true =>
    have h := hs
    simp only [shortB, List.all_cons, List.all_nil, Bool.and_true, Bool.and_eq_true, decide_eq_true_eq] at h
    obtain ⟨⟨h1, h2⟩, h3, h4⟩ := h
    have z1 : n1.size ≤ 140737488355328 := by omega
    have z2 : d1.size ≤ 140737488355328 := by omega
    have z3 : n2.size ≤ 140737488355328 := by omega
    have z4 : d2.size ≤ 140737488355328 := by omega
    have kv := fun W (hW : Env W) => Valid_any g1 n1 d1 W hW z1 z2
    have lv := fun W => RRValid_any g1 n1 d1 W z1 z2
    obtain ⟨ro, so, uo, eo, ko, lo⟩ := both_of m n hm0 hm1 hn0 hn1
    obtain ⟨ra, sa, ua, ea, kadd, ladd⟩ := both_add g1 g2 n1 d1 n2 d2 z1 z2 z3 z4
    obtain ⟨rs, ss, us, es, ksub, lsub⟩ := both_sub g1 g2 n1 d1 n2 d2 z1 z2 z3 z4
    obtain ⟨rm, sm, um, em, kmul, lmul⟩ := both_mul g1 g2 n1 d1 n2 d2 z1 z2 z3 z4
    obtain ⟨rd, sd, ud, ed, kdiv, ldiv⟩ := both_div g1 g2 n1 d1 n2 d2 z1 z2 z3 z4
    obtain ⟨c, ec, kc, lc⟩ := both_cmp g1 g2 n1 d1 n2 d2 z1 z2 z3 z4
    obtain ⟨i, ei, kf, lf⟩ := both_floor g1 n1 d1 z1 z2
    exact rmatch_go g1 g2 n1 d1 n2 d2 m n hs ro ra rs rm rd _ so uo sa ua ss us sm um sd ud eo ea es em ed c ec i ei w hE ko lo kadd ladd ksub lsub kmul lmul kdiv ldiv kc lc kf lf kv lv

end Nt
end Go.Proofs.YtjahnkeafaebdaaGreatDoor

