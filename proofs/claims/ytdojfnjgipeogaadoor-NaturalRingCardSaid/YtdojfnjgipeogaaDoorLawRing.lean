/- NaturalRing: the walk. -/
import Derived.Test.YtdojfnjgipeogaaDoorNatO
namespace Go.Proofs.YtdojfnjgipeogaaDoor
open Go.RowKit Go.Shelf
namespace Nt

theorem ring_comm (x y : Option Nat) : sumO y x = sumO x y ∧ sumE y x = sumE x y ∧ mulO y x = mulO x y ∧ mulE y x = mulE x y := by
  cases x <;> cases y <;> simp only [sumO, sumE, mulO, mulE, apO, apE, Nat.add_comm, Nat.mul_comm, and_self]

theorem ring_sum {x y z : Option Nat} (hx : x.isSome = true) (hy : y.isSome = true) (hz : z.isSome = true) :
    sumO (sumO x y) z = sumO x (sumO y z) ∧ ((sumE (sumO x y) z = 0 ∧ sumE x (sumO y z) = 0) ∨ (sumE (sumO x y) z ≠ 0 ∧ sumE x (sumO y z) ≠ 0)) := by
  obtain ⟨a, rfl⟩ := Option.isSome_iff_exists.1 hx
  obtain ⟨b, rfl⟩ := Option.isSome_iff_exists.1 hy
  obtain ⟨c, rfl⟩ := Option.isSome_iff_exists.1 hz
  by_cases h : a + b + c < Lim
  · have h1 : a + b < Lim := by omega
    have h2 : b + c < Lim := by omega
    have h3 : a + (b + c) < Lim := by omega
    have h4 : a + b + c = a + (b + c) := Nat.add_assoc a b c
    have e1 : sumO (some a) (some b) = some (a + b) := by simp [sumO, apO, limO, h1]
    have e2 : sumO (some b) (some c) = some (b + c) := by simp [sumO, apO, limO, h2]
    rw [e1, e2]
    exact ⟨by simp only [sumO, apO, h4], .inl ⟨by simp only [sumE, apE, if_pos h], by simp only [sumE, apE, if_pos h3]⟩⟩
  · have h3 : ¬ a + (b + c) < Lim := by omega
    have l1 : sumO (sumO (some a) (some b)) (some c) = none ∧ sumE (sumO (some a) (some b)) (some c) ≠ 0 := by
      by_cases h1 : a + b < Lim
      · have e1 : sumO (some a) (some b) = some (a + b) := by simp [sumO, apO, limO, h1]
        rw [e1]
        exact ⟨by simp only [sumO, apO, limO, if_neg h], by simp [sumE, apE, h]⟩
      · have e1 : sumO (some a) (some b) = none := by simp [sumO, apO, limO, h1]
        rw [e1]
        exact ⟨rfl, fun h => by cases h⟩
    have l2 : sumO (some a) (sumO (some b) (some c)) = none ∧ sumE (some a) (sumO (some b) (some c)) ≠ 0 := by
      by_cases h1 : b + c < Lim
      · have e1 : sumO (some b) (some c) = some (b + c) := by simp [sumO, apO, limO, h1]
        rw [e1]
        exact ⟨by simp only [sumO, apO, limO, if_neg h3], by simp [sumE, apE, h3]⟩
      · have e1 : sumO (some b) (some c) = none := by simp [sumO, apO, limO, h1]
        rw [e1]
        exact ⟨rfl, fun h => by cases h⟩
    exact ⟨by rw [l1.1, l2.1], .inr ⟨l1.2, l2.2⟩⟩

theorem ring_mul {x y z : Option Nat} (hx : x.isSome = true) (hy : y.isSome = true) (hz : z.isSome = true) :
    mulE (mulO x y) z ≠ 0 ∨ (mulE (mulO x y) z = 0 ∧ mulE x (mulO y z) ≠ 0) ∨ (mulE (mulO x y) z = 0 ∧ mulE x (mulO y z) = 0 ∧ mulO (mulO x y) z = mulO x (mulO y z)) := by
  obtain ⟨a, rfl⟩ := Option.isSome_iff_exists.1 hx
  obtain ⟨b, rfl⟩ := Option.isSome_iff_exists.1 hy
  obtain ⟨c, rfl⟩ := Option.isSome_iff_exists.1 hz
  by_cases h : mulE (mulO (some a) (some b)) (some c) = 0
  · by_cases k : mulE (some a) (mulO (some b) (some c)) = 0
    · refine .inr (.inr ⟨h, k, ?_⟩)
      have e1 := mul_is (mul_left h)
      have e2 := mul_is (mul_right k)
      rw [e1] at h ⊢
      rw [e2] at k ⊢
      rw [mul_of h, mul_of k, Nat.mul_assoc]
    · exact .inr (.inl ⟨h, k⟩)
  · exact .inl h

theorem ring_dist {x y z : Option Nat} (hx : x.isSome = true) (hy : y.isSome = true) (hz : z.isSome = true) :
    sumE y z = 0 → mulE x (sumO y z) = 0 → mulE x z = 0 → sumE (mulO x y) (mulO x z) = 0 → mulO x (sumO y z) = sumO (mulO x y) (mulO x z) := by
  obtain ⟨a, rfl⟩ := Option.isSome_iff_exists.1 hx
  obtain ⟨b, rfl⟩ := Option.isSome_iff_exists.1 hy
  obtain ⟨c, rfl⟩ := Option.isSome_iff_exists.1 hz
  intro h1 h2 h3 h4
  have e1 := mul_is (sum_left h4)
  rw [sum_of h1] at h2 ⊢
  rw [mul_of h3, e1] at h4 ⊢
  rw [mul_of h2, sum_of h4, Nat.mul_add]

set_option maxRecDepth 100000 in
set_option maxHeartbeats 4000000 in
theorem ring_walk {x y z : Option Nat} (okx : Ok x) (oky : Ok y) (okz : Ok z) (hx : x.isSome = true) (hy : y.isSome = true) (hz : z.isSome = true) (w : World) (hE : Env w) :
    Calls Tryd.prog 5 #[.string (T x), .string (T y), .string (T z)] w fun e w' => e = .returned (.bool true) ∧ Below w.heap.size w w' := by
  replace hE := Lib.hid hE
  have HC := Lib.hid (ring_comm x y)
  have HS := Lib.hid (ring_sum hx hy hz)
  have HM := Lib.hid (ring_mul hx hy hz)
  have HD := Lib.hid (ring_dist hx hy hz)
  replace okx := Lib.hid okx
  replace oky := Lib.hid oky
  replace okz := Lib.hid okz
  go_enter Tryd.func5, Tryd.ntmps5
  go_wp2_with fail
  refine (head_any w hE.out).mono ?_
  rintro e w0 ⟨rfl, hb0⟩
  have hB0 := Lib.hid hb0
  clear hb0
  go_wp2_with fail
  refine (isOk x okx.out w0).mono ?_
  rintro e w1 ⟨rfl, hb1⟩
  rw [hx]
  have hB1 := Lib.hid (hB0.out.trans (hb1.mono hB0.out.size))
  clear hb1 hB0
  go_wp2_with fail
  refine (isOk y oky.out w1).mono ?_
  rintro e w2 ⟨rfl, hb2⟩
  rw [hy]
  have hB2 := Lib.hid (hB1.out.trans (hb2.mono hB1.out.size))
  clear hb2 hB1
  go_wp2_with fail
  refine (isOk z okz.out w2).mono ?_
  rintro e w3 ⟨rfl, hb3⟩
  rw [hz]
  have hB3 := Lib.hid (hB2.out.trans (hb3.mono hB2.out.size))
  clear hb3 hB2
  go_wp2_with fail
  refine (addT x y w3 (hE.out.below hB3.out) okx.out oky.out).mono ?_
  rintro e w4 ⟨rfl, hb4⟩
  have hB4 := Lib.hid (hB3.out.trans (hb4.mono hB3.out.size))
  clear hb4 hB3
  go_wp2_with fail
  refine (addT y x w4 (hE.out.below hB4.out) oky.out okx.out).mono ?_
  rintro e w5 ⟨rfl, hb5⟩
  rw [HC.out.1, HC.out.2.1]
  have hB5 := Lib.hid (hB4.out.trans (hb5.mono hB4.out.size))
  clear hb5 hB4
  go_wp2_with fail
  refine (mulT x y w5 (hE.out.below hB5.out) okx.out oky.out).mono ?_
  rintro e w6 ⟨rfl, hb6⟩
  have hB6 := Lib.hid (hB5.out.trans (hb6.mono hB5.out.size))
  clear hb6 hB5
  go_wp2_with fail
  refine (mulT y x w6 (hE.out.below hB6.out) oky.out okx.out).mono ?_
  rintro e w7 ⟨rfl, hb7⟩
  rw [HC.out.2.2.1, HC.out.2.2.2]
  have hB7 := Lib.hid (hB6.out.trans (hb7.mono hB6.out.size))
  clear hb7 hB6
  go_wp2_with fail
  refine (addT (sumO x y) z w7 (hE.out.below hB7.out) (ok_sum _ _) okz.out).mono ?_
  rintro e w8 ⟨rfl, hb8⟩
  have hB8 := Lib.hid (hB7.out.trans (hb8.mono hB7.out.size))
  clear hb8 hB7
  go_wp2_with fail
  refine (addT y z w8 (hE.out.below hB8.out) oky.out okz.out).mono ?_
  rintro e w9 ⟨rfl, hb9⟩
  have hB9 := Lib.hid (hB8.out.trans (hb9.mono hB8.out.size))
  clear hb9 hB8
  go_wp2_with fail
  refine (addT x (sumO y z) w9 (hE.out.below hB9.out) okx.out (ok_sum _ _)).mono ?_
  rintro e w10 ⟨rfl, hb10⟩
  have hB10 := Lib.hid (hB9.out.trans (hb10.mono hB9.out.size))
  clear hb10 hB9
  rw [HS.out.1]
  rcases HS.out.2 with ⟨h1, h2⟩ | ⟨h1, h2⟩
  · rw [h1, h2]
    clear h1 h2
    go_wp2_with fail
    refine (mulT (mulO x y) z w10 (hE.out.below hB10.out) (ok_mul _ _) okz.out).mono ?_
    rintro e w11 ⟨rfl, hb11⟩
    have hB11 := Lib.hid (hB10.out.trans (hb11.mono hB10.out.size))
    clear hb11 hB10
    go_wp2_with fail
    refine (mulT y z w11 (hE.out.below hB11.out) oky.out okz.out).mono ?_
    rintro e w12 ⟨rfl, hb12⟩
    have hB12 := Lib.hid (hB11.out.trans (hb12.mono hB11.out.size))
    clear hb12 hB11
    go_wp2_with fail
    refine (mulT x (mulO y z) w12 (hE.out.below hB12.out) okx.out (ok_mul _ _)).mono ?_
    rintro e w13 ⟨rfl, hb13⟩
    have hB13 := Lib.hid (hB12.out.trans (hb13.mono hB12.out.size))
    clear hb13 hB12
    rcases HM.out with k1 | ⟨k1, k2⟩ | ⟨k1, k2, k3⟩
    · have k1 : (mulE (mulO x y) z == 0) = false := by simpa using k1
      go_wp2_with fail
      refine (mulT x (sumO y z) w13 (hE.out.below hB13.out) okx.out (ok_sum _ _)).mono ?_
      rintro e w14 ⟨rfl, hb14⟩
      have hB14 := Lib.hid (hB13.out.trans (hb14.mono hB13.out.size))
      clear hb14 hB13
      go_wp2_with fail
      refine (mulT x z w14 (hE.out.below hB14.out) okx.out okz.out).mono ?_
      rintro e w15 ⟨rfl, hb15⟩
      have hB15 := Lib.hid (hB14.out.trans (hb15.mono hB14.out.size))
      clear hb15 hB14
      go_wp2_with fail
      refine (addT (mulO x y) (mulO x z) w15 (hE.out.below hB15.out) (ok_mul _ _) (ok_mul _ _)).mono ?_
      rintro e w16 ⟨rfl, hb16⟩
      have hB16 := Lib.hid (hB15.out.trans (hb16.mono hB15.out.size))
      clear hb16 hB15
      go_wp2_with fail
      all_goals go_ret
      all_goals refine ⟨?_, hB16.out⟩
      all_goals have F := HD.out
      all_goals simp_all
    · have k2 : (mulE x (mulO y z) == 0) = false := by simpa using k2
      rw [k1]
      clear k1
      go_wp2_with fail
      refine (mulT x (sumO y z) w13 (hE.out.below hB13.out) okx.out (ok_sum _ _)).mono ?_
      rintro e w14 ⟨rfl, hb14⟩
      have hB14 := Lib.hid (hB13.out.trans (hb14.mono hB13.out.size))
      clear hb14 hB13
      go_wp2_with fail
      refine (mulT x z w14 (hE.out.below hB14.out) okx.out okz.out).mono ?_
      rintro e w15 ⟨rfl, hb15⟩
      have hB15 := Lib.hid (hB14.out.trans (hb15.mono hB14.out.size))
      clear hb15 hB14
      go_wp2_with fail
      refine (addT (mulO x y) (mulO x z) w15 (hE.out.below hB15.out) (ok_mul _ _) (ok_mul _ _)).mono ?_
      rintro e w16 ⟨rfl, hb16⟩
      have hB16 := Lib.hid (hB15.out.trans (hb16.mono hB15.out.size))
      clear hb16 hB15
      go_wp2_with fail
      all_goals go_ret
      all_goals refine ⟨?_, hB16.out⟩
      all_goals have F := HD.out
      all_goals simp_all
    · rw [k1, k2, k3]
      clear k1 k2 k3
      go_wp2_with fail
      refine (mulT x (sumO y z) w13 (hE.out.below hB13.out) okx.out (ok_sum _ _)).mono ?_
      rintro e w14 ⟨rfl, hb14⟩
      have hB14 := Lib.hid (hB13.out.trans (hb14.mono hB13.out.size))
      clear hb14 hB13
      go_wp2_with fail
      refine (mulT x z w14 (hE.out.below hB14.out) okx.out okz.out).mono ?_
      rintro e w15 ⟨rfl, hb15⟩
      have hB15 := Lib.hid (hB14.out.trans (hb15.mono hB14.out.size))
      clear hb15 hB14
      go_wp2_with fail
      refine (addT (mulO x y) (mulO x z) w15 (hE.out.below hB15.out) (ok_mul _ _) (ok_mul _ _)).mono ?_
      rintro e w16 ⟨rfl, hb16⟩
      have hB16 := Lib.hid (hB15.out.trans (hb16.mono hB15.out.size))
      clear hb16 hB15
      go_wp2_with fail
      all_goals go_ret
      all_goals refine ⟨?_, hB16.out⟩
      all_goals have F := HD.out
      all_goals simp_all
  · have h1 : (sumE (sumO x y) z == 0) = false := by simpa using h1
    have h2 : (sumE x (sumO y z) == 0) = false := by simpa using h2
    go_wp2_with fail
    refine (mulT (mulO x y) z w10 (hE.out.below hB10.out) (ok_mul _ _) okz.out).mono ?_
    rintro e w11 ⟨rfl, hb11⟩
    have hB11 := Lib.hid (hB10.out.trans (hb11.mono hB10.out.size))
    clear hb11 hB10
    go_wp2_with fail
    refine (mulT y z w11 (hE.out.below hB11.out) oky.out okz.out).mono ?_
    rintro e w12 ⟨rfl, hb12⟩
    have hB12 := Lib.hid (hB11.out.trans (hb12.mono hB11.out.size))
    clear hb12 hB11
    go_wp2_with fail
    refine (mulT x (mulO y z) w12 (hE.out.below hB12.out) okx.out (ok_mul _ _)).mono ?_
    rintro e w13 ⟨rfl, hb13⟩
    have hB13 := Lib.hid (hB12.out.trans (hb13.mono hB12.out.size))
    clear hb13 hB12
    rcases HM.out with k1 | ⟨k1, k2⟩ | ⟨k1, k2, k3⟩
    · have k1 : (mulE (mulO x y) z == 0) = false := by simpa using k1
      go_wp2_with fail
      refine (mulT x (sumO y z) w13 (hE.out.below hB13.out) okx.out (ok_sum _ _)).mono ?_
      rintro e w14 ⟨rfl, hb14⟩
      have hB14 := Lib.hid (hB13.out.trans (hb14.mono hB13.out.size))
      clear hb14 hB13
      go_wp2_with fail
      refine (mulT x z w14 (hE.out.below hB14.out) okx.out okz.out).mono ?_
      rintro e w15 ⟨rfl, hb15⟩
      have hB15 := Lib.hid (hB14.out.trans (hb15.mono hB14.out.size))
      clear hb15 hB14
      go_wp2_with fail
      refine (addT (mulO x y) (mulO x z) w15 (hE.out.below hB15.out) (ok_mul _ _) (ok_mul _ _)).mono ?_
      rintro e w16 ⟨rfl, hb16⟩
      have hB16 := Lib.hid (hB15.out.trans (hb16.mono hB15.out.size))
      clear hb16 hB15
      go_wp2_with fail
      all_goals go_ret
      all_goals refine ⟨?_, hB16.out⟩
      all_goals have F := HD.out
      all_goals simp_all
    · have k2 : (mulE x (mulO y z) == 0) = false := by simpa using k2
      rw [k1]
      clear k1
      go_wp2_with fail
      refine (mulT x (sumO y z) w13 (hE.out.below hB13.out) okx.out (ok_sum _ _)).mono ?_
      rintro e w14 ⟨rfl, hb14⟩
      have hB14 := Lib.hid (hB13.out.trans (hb14.mono hB13.out.size))
      clear hb14 hB13
      go_wp2_with fail
      refine (mulT x z w14 (hE.out.below hB14.out) okx.out okz.out).mono ?_
      rintro e w15 ⟨rfl, hb15⟩
      have hB15 := Lib.hid (hB14.out.trans (hb15.mono hB14.out.size))
      clear hb15 hB14
      go_wp2_with fail
      refine (addT (mulO x y) (mulO x z) w15 (hE.out.below hB15.out) (ok_mul _ _) (ok_mul _ _)).mono ?_
      rintro e w16 ⟨rfl, hb16⟩
      have hB16 := Lib.hid (hB15.out.trans (hb16.mono hB15.out.size))
      clear hb16 hB15
      go_wp2_with fail
      all_goals go_ret
      all_goals refine ⟨?_, hB16.out⟩
      all_goals have F := HD.out
      all_goals simp_all
    · rw [k1, k2, k3]
      clear k1 k2 k3
      go_wp2_with fail
      refine (mulT x (sumO y z) w13 (hE.out.below hB13.out) okx.out (ok_sum _ _)).mono ?_
      rintro e w14 ⟨rfl, hb14⟩
      have hB14 := Lib.hid (hB13.out.trans (hb14.mono hB13.out.size))
      clear hb14 hB13
      go_wp2_with fail
      refine (mulT x z w14 (hE.out.below hB14.out) okx.out okz.out).mono ?_
      rintro e w15 ⟨rfl, hb15⟩
      have hB15 := Lib.hid (hB14.out.trans (hb15.mono hB14.out.size))
      clear hb15 hB14
      go_wp2_with fail
      refine (addT (mulO x y) (mulO x z) w15 (hE.out.below hB15.out) (ok_mul _ _) (ok_mul _ _)).mono ?_
      rintro e w16 ⟨rfl, hb16⟩
      have hB16 := Lib.hid (hB15.out.trans (hb16.mono hB15.out.size))
      clear hb16 hB15
      go_wp2_with fail
      all_goals go_ret
      all_goals refine ⟨?_, hB16.out⟩
      all_goals have F := HD.out
      all_goals simp_all

set_option maxRecDepth 100000 in
set_option maxHeartbeats 4000000 in
theorem ring_no0 (a b c : ByteArray) (w : World) (hE : Env w)  (sa : a.size ≤ 140737488355328) (ha : isN a = false) :
    Calls Tryd.prog 5 #[.string a, .string b, .string c] w fun e w' => e = .returned (.bool true) ∧ Below w.heap.size w w' := by
  replace hE := Lib.hid hE
  replace ha := Lib.hid ha
  go_enter Tryd.func5, Tryd.ntmps5
  go_wp2_with fail
  refine (head_any w hE.out).mono ?_
  rintro e w0 ⟨rfl, hb0⟩
  have hB0 := Lib.hid hb0
  clear hb0
  go_wp2_with fail
  refine (is_any a w0 (by omega)).mono ?_
  rintro e w1 ⟨rfl, hb1⟩
  rw [ha.out]
  have hB1 := Lib.hid (hB0.out.trans (hb1.mono hB0.out.size))
  clear hb1 hB0
  go_wp2
  go_ret
  exact ⟨rfl, hB1.out⟩

set_option maxRecDepth 100000 in
set_option maxHeartbeats 4000000 in
theorem ring_no1 (a b c : ByteArray) (w : World) (hE : Env w) (ha : isN a = true) (sa : a.size ≤ 140737488355328) (sb : b.size ≤ 140737488355328) (hb : isN b = false) :
    Calls Tryd.prog 5 #[.string a, .string b, .string c] w fun e w' => e = .returned (.bool true) ∧ Below w.heap.size w w' := by
  replace hE := Lib.hid hE
  replace ha := Lib.hid ha
  replace hb := Lib.hid hb
  go_enter Tryd.func5, Tryd.ntmps5
  go_wp2_with fail
  refine (head_any w hE.out).mono ?_
  rintro e w0 ⟨rfl, hb0⟩
  have hB0 := Lib.hid hb0
  clear hb0
  go_wp2_with fail
  refine (is_any a w0 (by omega)).mono ?_
  rintro e w1 ⟨rfl, hb1⟩
  rw [ha.out]
  have hB1 := Lib.hid (hB0.out.trans (hb1.mono hB0.out.size))
  clear hb1 hB0
  go_wp2_with fail
  refine (is_any b w1 (by omega)).mono ?_
  rintro e w2 ⟨rfl, hb2⟩
  rw [hb.out]
  have hB2 := Lib.hid (hB1.out.trans (hb2.mono hB1.out.size))
  clear hb2 hB1
  go_wp2
  go_ret
  exact ⟨rfl, hB2.out⟩

set_option maxRecDepth 100000 in
set_option maxHeartbeats 4000000 in
theorem ring_no2 (a b c : ByteArray) (w : World) (hE : Env w) (ha : isN a = true) (sa : a.size ≤ 140737488355328) (hb : isN b = true) (sb : b.size ≤ 140737488355328) (sc : c.size ≤ 140737488355328) (hc : isN c = false) :
    Calls Tryd.prog 5 #[.string a, .string b, .string c] w fun e w' => e = .returned (.bool true) ∧ Below w.heap.size w w' := by
  replace hE := Lib.hid hE
  replace ha := Lib.hid ha
  replace hb := Lib.hid hb
  replace hc := Lib.hid hc
  go_enter Tryd.func5, Tryd.ntmps5
  go_wp2_with fail
  refine (head_any w hE.out).mono ?_
  rintro e w0 ⟨rfl, hb0⟩
  have hB0 := Lib.hid hb0
  clear hb0
  go_wp2_with fail
  refine (is_any a w0 (by omega)).mono ?_
  rintro e w1 ⟨rfl, hb1⟩
  rw [ha.out]
  have hB1 := Lib.hid (hB0.out.trans (hb1.mono hB0.out.size))
  clear hb1 hB0
  go_wp2_with fail
  refine (is_any b w1 (by omega)).mono ?_
  rintro e w2 ⟨rfl, hb2⟩
  rw [hb.out]
  have hB2 := Lib.hid (hB1.out.trans (hb2.mono hB1.out.size))
  clear hb2 hB1
  go_wp2_with fail
  refine (is_any c w2 (by omega)).mono ?_
  rintro e w3 ⟨rfl, hb3⟩
  rw [hc.out]
  have hB3 := Lib.hid (hB2.out.trans (hb3.mono hB2.out.size))
  clear hb3 hB2
  go_wp2
  go_ret
  exact ⟨rfl, hB3.out⟩

theorem ring_any (a b c : ByteArray) (w : World) (hE : Env w) (sa : a.size ≤ 140737488355328) (sb : b.size ≤ 140737488355328) (sc : c.size ≤ 140737488355328) :
    Calls Tryd.prog 5 #[.string a, .string b, .string c] w fun e w' => e = .returned (.bool true) ∧ Below w.heap.size w w' := by
  cases ha : isN a with
  | false => exact ring_no0 a b c w hE  sa ha
  | true =>
    cases hb : isN b with
    | false => exact ring_no1 a b c w hE ha sa sb hb
    | true =>
      cases hc : isN c with
      | false => exact ring_no2 a b c w hE ha sa hb sb sc hc
      | true =>
        obtain ⟨a', ka, rfl⟩ := of_isN ha
        obtain ⟨b', kb, rfl⟩ := of_isN hb
        obtain ⟨c', kc, rfl⟩ := of_isN hc
        exact ring_walk (ok_some ka) (ok_some kb) (ok_some kc) rfl rfl rfl w hE

end Nt
end Go.Proofs.YtdojfnjgipeogaaDoor

