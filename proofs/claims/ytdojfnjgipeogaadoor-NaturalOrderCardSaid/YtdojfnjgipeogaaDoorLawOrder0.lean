/- NaturalOrder: walk 0 of seven. -/
import Derived.Test.YtdojfnjgipeogaaDoorLawOrderF
namespace Go.Proofs.YtdojfnjgipeogaaDoor
open Go.RowKit Go.Shelf
namespace Nt

set_option maxRecDepth 100000 in
set_option maxHeartbeats 4000000 in
theorem order_gt {x y z : Option Nat} (okx : Ok x) (oky : Ok y) (okz : Ok z) (hx : x.isSome = true) (hy : y.isSome = true) (hz : z.isSome = true) (hX : cmpO x y = 1 ∧ cmpO y x = -1 ∧ subX x y = 0) (w : World) (hE : Env w) :
    Calls Tryd.prog 6 #[.string (T x), .string (T y), .string (T z)] w fun e w' => e = .returned (.bool true) ∧ Below w.heap.size w w' := by
  replace hE := Lib.hid hE
  have HC := Lib.hid (order_errs hx hy hz)
  have HS := order_sum okx oky okz hx hy hz
  have HM := order_mul okx oky okz hx hy hz
  have HX := Lib.hid hX
  rw [hX.1] at HS HM
  replace HS := Lib.hid HS
  replace HM := Lib.hid HM
  clear hX
  replace okx := Lib.hid okx
  replace oky := Lib.hid oky
  replace okz := Lib.hid okz
  go_enter Tryd.func6, Tryd.ntmps6
  go_wp2_with fail
  refine (head_any w hE.out).mono ?_
  rintro e w0 ⟨rfl, hb0⟩
  have hB0 := Lib.hid hb0
  clear hb0
  go_wp2_with fail
  refine (isOk x okx.out w0).mono ?_
  rintro e w1 ⟨rfl, hb1⟩
  rw [hx]
  have hB1 := Lib.hid (hB0.out.trans (hb1.mono hB0.out.size))
  clear hb1 hB0
  go_wp2_with fail
  refine (isOk y oky.out w1).mono ?_
  rintro e w2 ⟨rfl, hb2⟩
  rw [hy]
  have hB2 := Lib.hid (hB1.out.trans (hb2.mono hB1.out.size))
  clear hb2 hB1
  go_wp2_with fail
  refine (isOk z okz.out w2).mono ?_
  rintro e w3 ⟨rfl, hb3⟩
  rw [hz]
  have hB3 := Lib.hid (hB2.out.trans (hb3.mono hB2.out.size))
  clear hb3 hB2
  go_wp2_with fail
  refine (cmpT x y w3 (hE.out.below hB3.out) okx.out oky.out).mono ?_
  rintro e w4 ⟨rfl, hb4⟩
  rw [HC.out.1, HX.out.1]
  have hB4 := Lib.hid (hB3.out.trans (hb4.mono hB3.out.size))
  clear hb4 hB3
  go_wp2_with fail
  refine (cmpT y x w4 (hE.out.below hB4.out) oky.out okx.out).mono ?_
  rintro e w5 ⟨rfl, hb5⟩
  rw [HC.out.2.1, HX.out.2.1]
  have hB5 := Lib.hid (hB4.out.trans (hb5.mono hB4.out.size))
  clear hb5 hB4
  go_wp2_with fail
  refine (cmpT y z w5 (hE.out.below hB5.out) oky.out okz.out).mono ?_
  rintro e w6 ⟨rfl, hb6⟩
  rw [HC.out.2.2.1]
  have hB6 := Lib.hid (hB5.out.trans (hb6.mono hB5.out.size))
  clear hb6 hB5
  go_wp2_with fail
  refine (cmpT x z w6 (hE.out.below hB6.out) okx.out okz.out).mono ?_
  rintro e w7 ⟨rfl, hb7⟩
  rw [HC.out.2.2.2]
  have hB7 := Lib.hid (hB6.out.trans (hb7.mono hB6.out.size))
  clear hb7 hB6
  go_wp2_with fail
  refine (subT x y w7 (hE.out.below hB7.out) okx.out oky.out).mono ?_
  rintro e w8 ⟨rfl, hb8⟩
  rw [HX.out.2.2]
  have hB8 := Lib.hid (hB7.out.trans (hb8.mono hB7.out.size))
  clear hb8 hB7
  go_wp2_with fail
  refine (addT x z w8 (hE.out.below hB8.out) okx.out okz.out).mono ?_
  rintro e w9 ⟨rfl, hb9⟩
  have hB9 := Lib.hid (hB8.out.trans (hb9.mono hB8.out.size))
  clear hb9 hB8
  go_wp2_with fail
  refine (addT y z w9 (hE.out.below hB9.out) oky.out okz.out).mono ?_
  rintro e w10 ⟨rfl, hb10⟩
  have hB10 := Lib.hid (hB9.out.trans (hb10.mono hB9.out.size))
  clear hb10 hB9
  go_wp2_with fail
  refine (cmpT (sumO x z) (sumO y z) w10 (hE.out.below hB10.out) (ok_sum _ _) (ok_sum _ _)).mono ?_
  rintro e w11 ⟨rfl, hb11⟩
  have hB11 := Lib.hid (hB10.out.trans (hb11.mono hB10.out.size))
  clear hb11 hB10
  go_wp2_with fail
  refine (mulT x z w11 (hE.out.below hB11.out) okx.out okz.out).mono ?_
  rintro e w12 ⟨rfl, hb12⟩
  have hB12 := Lib.hid (hB11.out.trans (hb12.mono hB11.out.size))
  clear hb12 hB11
  go_wp2_with fail
  refine (mulT y z w12 (hE.out.below hB12.out) oky.out okz.out).mono ?_
  rintro e w13 ⟨rfl, hb13⟩
  have hB13 := Lib.hid (hB12.out.trans (hb13.mono hB12.out.size))
  clear hb13 hB12
  go_wp2_with fail
  refine (cmpT (mulO x z) (mulO y z) w13 (hE.out.below hB13.out) (ok_mul _ _) (ok_mul _ _)).mono ?_
  rintro e w14 ⟨rfl, hb14⟩
  have hB14 := Lib.hid (hB13.out.trans (hb14.mono hB13.out.size))
  clear hb14 hB13
  rcases HS.out with s1 | ⟨s1, s2⟩ | ⟨s1, s2, s3⟩
  all_goals rcases HM.out with m0 | ⟨m0, m1⟩ | ⟨m0, m1, m2⟩ | ⟨m0, m1, m2, m3⟩
  all_goals (try rw [s1])
  all_goals (try rw [s2])
  all_goals (try rw [s3])
  all_goals (try rw [m1])
  all_goals (try rw [m2])
  all_goals (try rw [m3])
  all_goals (clear HS HM HC HX; try clear s1; try clear s2; try clear s3; try clear m1; try clear m2; try clear m3)
  all_goals go_wp2
  all_goals go_ret
  all_goals exact ⟨rfl, hB14.out⟩

end Nt
end Go.Proofs.YtdojfnjgipeogaaDoor

