/- NaturalQuotients: the walk. -/
import Derived.Test.YtdojfnjgipeogaaDoorNatO
namespace Go.Proofs.YtdojfnjgipeogaaDoor
open Go.RowKit Go.Shelf
namespace Nt

theorem quotients_facts {x y : Option Nat} (okx : Ok x) (oky : Ok y) (hx : x.isSome = true) (hy : y.isSome = true) (h0 : (T y).toList ≠ [48]) :
    quoX x y = 0 ∧ mulE (quoO x y) y = 0 ∧ sumO (mulO (quoO x y) y) (remO x y) = x ∧ sumE (mulO (quoO x y) y) (remO x y) = 0 ∧ cmpO (remO x y) y = -1 ∧ cmpX (remO x y) y = 0 := by
  obtain ⟨a, rfl⟩ := Option.isSome_iff_exists.1 hx
  obtain ⟨b, rfl⟩ := Option.isSome_iff_exists.1 hy
  have ha := okx a rfl
  have hb := oky b rfl
  have h : b ≠ 0 := by rintro rfl; exact h0 toL_zero
  have e1 : quoO (some a) (some b) = some (a / b) := by simp [quoO, h]
  have e2 : remO (some a) (some b) = some (a % b) := by simp [remO, h]
  have l1 : a / b * b ≤ a := Nat.div_mul_le_self a b
  have l2 : a / b * b + a % b = a := by rw [Nat.mul_comm]; exact Nat.div_add_mod a b
  have l3 : a % b < b := Nat.mod_lt _ (Nat.pos_of_ne_zero h)
  have l4 : a / b * b < Lim := Nat.lt_of_le_of_lt l1 ha
  have e3 : mulO (some (a / b)) (some b) = some (a / b * b) := by simp [mulO, apO, limO, l4]
  have e4 : mulE (some (a / b)) (some b) = 0 := by simp [mulE, apE, l4]
  rw [e1, e2, e3, e4]
  refine ⟨by simp [quoX, h], rfl, ?_, ?_, ?_, rfl⟩
  · simp [sumO, apO, limO, l2, ha]
  · simp [sumE, apE, l2, ha]
  · simp [cmpO, cmpN, l3]

theorem quotients_back {x y z : Option Nat} (okx : Ok x) (oky : Ok y) (okz : Ok z) (hx : x.isSome = true) (hy : y.isSome = true) (hz : z.isSome = true) (h0 : (T y).toList ≠ [48]) :
    mulE z y ≠ 0 ∨ (mulE z y = 0 ∧ sumE (mulO z y) (remO x y) ≠ 0) ∨ (mulE z y = 0 ∧ sumE (mulO z y) (remO x y) = 0 ∧
      quoO (sumO (mulO z y) (remO x y)) y = z ∧ remO (sumO (mulO z y) (remO x y)) y = remO x y ∧ quoX (sumO (mulO z y) (remO x y)) y = 0) := by
  obtain ⟨a, rfl⟩ := Option.isSome_iff_exists.1 hx
  obtain ⟨b, rfl⟩ := Option.isSome_iff_exists.1 hy
  obtain ⟨c, rfl⟩ := Option.isSome_iff_exists.1 hz
  have h : b ≠ 0 := by rintro rfl; exact h0 toL_zero
  have e2 : remO (some a) (some b) = some (a % b) := by simp [remO, h]
  have l3 : a % b < b := Nat.mod_lt _ (Nat.pos_of_ne_zero h)
  by_cases h1 : c * b < Lim
  · have e3 : mulO (some c) (some b) = some (c * b) := by simp [mulO, apO, limO, h1]
    have e4 : mulE (some c) (some b) = 0 := by simp [mulE, apE, h1]
    rw [e2, e3, e4]
    by_cases h2 : c * b + a % b < Lim
    · have e5 : sumO (some (c * b)) (some (a % b)) = some (c * b + a % b) := by simp [sumO, apO, limO, h2]
      have e6 : sumE (some (c * b)) (some (a % b)) = 0 := by simp [sumE, apE, h2]
      rw [e5, e6]
      have d1 : (c * b + a % b) / b = c := by
        rw [Nat.mul_comm, Nat.mul_add_div (Nat.pos_of_ne_zero h), Nat.div_eq_of_lt l3, Nat.add_zero]
      have d2 : (c * b + a % b) % b = a % b := by
        rw [Nat.mul_comm, Nat.mul_add_mod, Nat.mod_eq_of_lt l3]
      exact .inr (.inr ⟨rfl, rfl, by simp [quoO, h, d1], by simp [remO, h, d2], by simp [quoX, h]⟩)
    · exact .inr (.inl ⟨rfl, by simp [sumE, apE, h2]⟩)
  · exact .inl (by simp [mulE, apE, h1])

set_option maxRecDepth 100000 in
set_option maxHeartbeats 4000000 in
theorem quotients_zero {x y z : Option Nat} (okx : Ok x) (oky : Ok y) (okz : Ok z) (hx : x.isSome = true) (hy : y.isSome = true) (hz : z.isSome = true) (h0 : (T y).toList = [48]) (w : World) (hE : Env w) :
    Calls Tryd.prog 8 #[.string (T x), .string (T y), .string (T z)] w fun e w' => e = .returned (.bool true) ∧ Below w.heap.size w w' := by
  replace hE := Lib.hid hE
  replace okx := Lib.hid okx
  replace oky := Lib.hid oky
  replace okz := Lib.hid okz
  have h0 : ((T y).toList == [48]) = true := by rw [h0]; rfl
  go_enter Tryd.func8, Tryd.ntmps8
  go_wp2_with fail
  refine (head_any w hE.out).mono ?_
  rintro e w0 ⟨rfl, hb0⟩
  have hB0 := Lib.hid hb0
  clear hb0
  go_wp2_with fail
  refine (isOk x okx.out w0).mono ?_
  rintro e w1 ⟨rfl, hb1⟩
  rw [hx]
  have hB1 := Lib.hid (hB0.out.trans (hb1.mono hB0.out.size))
  clear hb1 hB0
  go_wp2_with fail
  refine (isOk y oky.out w1).mono ?_
  rintro e w2 ⟨rfl, hb2⟩
  rw [hy]
  have hB2 := Lib.hid (hB1.out.trans (hb2.mono hB1.out.size))
  clear hb2 hB1
  go_wp2_with fail
  refine (isOk z okz.out w2).mono ?_
  rintro e w3 ⟨rfl, hb3⟩
  rw [hz]
  have hB3 := Lib.hid (hB2.out.trans (hb3.mono hB2.out.size))
  clear hb3 hB2
  go_wp2
  go_ret
  exact ⟨rfl, hB3.out⟩

set_option maxRecDepth 100000 in
set_option maxHeartbeats 4000000 in
theorem quotients_main {x y z : Option Nat} (okx : Ok x) (oky : Ok y) (okz : Ok z) (hx : x.isSome = true) (hy : y.isSome = true) (hz : z.isSome = true) (h0 : (T y).toList ≠ [48]) (w : World) (hE : Env w) :
    Calls Tryd.prog 8 #[.string (T x), .string (T y), .string (T z)] w fun e w' => e = .returned (.bool true) ∧ Below w.heap.size w w' := by
  replace hE := Lib.hid hE
  have HF := Lib.hid (quotients_facts okx oky hx hy h0)
  have HG := Lib.hid (quotients_back okx oky okz hx hy hz h0)
  replace okx := Lib.hid okx
  replace oky := Lib.hid oky
  replace okz := Lib.hid okz
  have h0 : ((T y).toList == [48]) = false := by simpa using h0
  go_enter Tryd.func8, Tryd.ntmps8
  go_wp2_with fail
  refine (head_any w hE.out).mono ?_
  rintro e w0 ⟨rfl, hb0⟩
  have hB0 := Lib.hid hb0
  clear hb0
  go_wp2_with fail
  refine (isOk x okx.out w0).mono ?_
  rintro e w1 ⟨rfl, hb1⟩
  rw [hx]
  have hB1 := Lib.hid (hB0.out.trans (hb1.mono hB0.out.size))
  clear hb1 hB0
  go_wp2_with fail
  refine (isOk y oky.out w1).mono ?_
  rintro e w2 ⟨rfl, hb2⟩
  rw [hy]
  have hB2 := Lib.hid (hB1.out.trans (hb2.mono hB1.out.size))
  clear hb2 hB1
  go_wp2_with fail
  refine (isOk z okz.out w2).mono ?_
  rintro e w3 ⟨rfl, hb3⟩
  rw [hz]
  have hB3 := Lib.hid (hB2.out.trans (hb3.mono hB2.out.size))
  clear hb3 hB2
  go_wp2_with fail
  refine (divT x y w3 (hE.out.below hB3.out) okx.out oky.out).mono ?_
  rintro e w4 ⟨rfl, hb4⟩
  rw [HF.out.1]
  have hB4 := Lib.hid (hB3.out.trans (hb4.mono hB3.out.size))
  clear hb4 hB3
  go_wp2_with fail
  refine (mulT (quoO x y) y w4 (hE.out.below hB4.out) (ok_quo okx.out) oky.out).mono ?_
  rintro e w5 ⟨rfl, hb5⟩
  rw [HF.out.2.1]
  have hB5 := Lib.hid (hB4.out.trans (hb5.mono hB4.out.size))
  clear hb5 hB4
  go_wp2_with fail
  refine (addT (mulO (quoO x y) y) (remO x y) w5 (hE.out.below hB5.out) (ok_mul _ _) (ok_rem okx.out)).mono ?_
  rintro e w6 ⟨rfl, hb6⟩
  rw [HF.out.2.2.1]
  rw [HF.out.2.2.2.1]
  have hB6 := Lib.hid (hB5.out.trans (hb6.mono hB5.out.size))
  clear hb6 hB5
  go_wp2_with fail
  refine (cmpT (remO x y) y w6 (hE.out.below hB6.out) (ok_rem okx.out) oky.out).mono ?_
  rintro e w7 ⟨rfl, hb7⟩
  rw [HF.out.2.2.2.2.1]
  rw [HF.out.2.2.2.2.2]
  have hB7 := Lib.hid (hB6.out.trans (hb7.mono hB6.out.size))
  clear hb7 hB6
  go_wp2_with fail
  refine (mulT z y w7 (hE.out.below hB7.out) okz.out oky.out).mono ?_
  rintro e w8 ⟨rfl, hb8⟩
  have hB8 := Lib.hid (hB7.out.trans (hb8.mono hB7.out.size))
  clear hb8 hB7
  go_wp2_with fail
  refine (addT (mulO z y) (remO x y) w8 (hE.out.below hB8.out) (ok_mul _ _) (ok_rem okx.out)).mono ?_
  rintro e w9 ⟨rfl, hb9⟩
  have hB9 := Lib.hid (hB8.out.trans (hb9.mono hB8.out.size))
  clear hb9 hB8
  rcases HG.out with h1 | ⟨h1, h2⟩ | ⟨h1, h2, h3⟩
  · have h1 : (mulE z y == 0) = false := by simpa using h1
    go_wp2
    go_ret
    exact ⟨rfl, hB9.out⟩
  · have h2 : (sumE (mulO z y) (remO x y) == 0) = false := by simpa using h2
    rw [h1]
    go_wp2
    go_ret
    exact ⟨rfl, hB9.out⟩
  · have HK := Lib.hid h3
    rw [h1, h2]
    clear h3
    go_wp2_with fail
    refine (divT (sumO (mulO z y) (remO x y)) y w9 (hE.out.below hB9.out) (ok_sum _ _) oky.out).mono ?_
    rintro e w10 ⟨rfl, hb10⟩
    rw [HK.out.1]
    rw [HK.out.2.1]
    rw [HK.out.2.2]
    have hB10 := Lib.hid (hB9.out.trans (hb10.mono hB9.out.size))
    clear hb10 hB9
    go_wp2
    go_ret
    exact ⟨rfl, hB10.out⟩

theorem quotients_walk {x y z : Option Nat} (okx : Ok x) (oky : Ok y) (okz : Ok z) (hx : x.isSome = true) (hy : y.isSome = true) (hz : z.isSome = true) (w : World) (hE : Env w) :
    Calls Tryd.prog 8 #[.string (T x), .string (T y), .string (T z)] w fun e w' => e = .returned (.bool true) ∧ Below w.heap.size w w' := by
  by_cases h0 : (T y).toList = [48]
  · exact quotients_zero okx oky okz hx hy hz h0 w hE
  · exact quotients_main okx oky okz hx hy hz h0 w hE

set_option maxRecDepth 100000 in
set_option maxHeartbeats 4000000 in
theorem quotients_no0 (a b c : ByteArray) (w : World) (hE : Env w)  (sa : a.size ≤ 140737488355328) (ha : isN a = false) :
    Calls Tryd.prog 8 #[.string a, .string b, .string c] w fun e w' => e = .returned (.bool true) ∧ Below w.heap.size w w' := by
  replace hE := Lib.hid hE
  replace ha := Lib.hid ha
  go_enter Tryd.func8, Tryd.ntmps8
  go_wp2_with fail
  refine (head_any w hE.out).mono ?_
  rintro e w0 ⟨rfl, hb0⟩
  have hB0 := Lib.hid hb0
  clear hb0
  go_wp2_with fail
  refine (is_any a w0 (by omega)).mono ?_
  rintro e w1 ⟨rfl, hb1⟩
  rw [ha.out]
  have hB1 := Lib.hid (hB0.out.trans (hb1.mono hB0.out.size))
  clear hb1 hB0
  go_wp2
  go_ret
  exact ⟨rfl, hB1.out⟩

set_option maxRecDepth 100000 in
set_option maxHeartbeats 4000000 in
theorem quotients_no1 (a b c : ByteArray) (w : World) (hE : Env w) (ha : isN a = true) (sa : a.size ≤ 140737488355328) (sb : b.size ≤ 140737488355328) (hb : isN b = false) :
    Calls Tryd.prog 8 #[.string a, .string b, .string c] w fun e w' => e = .returned (.bool true) ∧ Below w.heap.size w w' := by
  replace hE := Lib.hid hE
  replace ha := Lib.hid ha
  replace hb := Lib.hid hb
  go_enter Tryd.func8, Tryd.ntmps8
  go_wp2_with fail
  refine (head_any w hE.out).mono ?_
  rintro e w0 ⟨rfl, hb0⟩
  have hB0 := Lib.hid hb0
  clear hb0
  go_wp2_with fail
  refine (is_any a w0 (by omega)).mono ?_
  rintro e w1 ⟨rfl, hb1⟩
  rw [ha.out]
  have hB1 := Lib.hid (hB0.out.trans (hb1.mono hB0.out.size))
  clear hb1 hB0
  go_wp2_with fail
  refine (is_any b w1 (by omega)).mono ?_
  rintro e w2 ⟨rfl, hb2⟩
  rw [hb.out]
  have hB2 := Lib.hid (hB1.out.trans (hb2.mono hB1.out.size))
  clear hb2 hB1
  go_wp2
  go_ret
  exact ⟨rfl, hB2.out⟩

set_option maxRecDepth 100000 in
set_option maxHeartbeats 4000000 in
theorem quotients_no2 (a b c : ByteArray) (w : World) (hE : Env w) (ha : isN a = true) (sa : a.size ≤ 140737488355328) (hb : isN b = true) (sb : b.size ≤ 140737488355328) (sc : c.size ≤ 140737488355328) (hc : isN c = false) :
    Calls Tryd.prog 8 #[.string a, .string b, .string c] w fun e w' => e = .returned (.bool true) ∧ Below w.heap.size w w' := by
  replace hE := Lib.hid hE
  replace ha := Lib.hid ha
  replace hb := Lib.hid hb
  replace hc := Lib.hid hc
  go_enter Tryd.func8, Tryd.ntmps8
  go_wp2_with fail
  refine (head_any w hE.out).mono ?_
  rintro e w0 ⟨rfl, hb0⟩
  have hB0 := Lib.hid hb0
  clear hb0
  go_wp2_with fail
  refine (is_any a w0 (by omega)).mono ?_
  rintro e w1 ⟨rfl, hb1⟩
  rw [ha.out]
  have hB1 := Lib.hid (hB0.out.trans (hb1.mono hB0.out.size))
  clear hb1 hB0
  go_wp2_with fail
  refine (is_any b w1 (by omega)).mono ?_
  rintro e w2 ⟨rfl, hb2⟩
  rw [hb.out]
  have hB2 := Lib.hid (hB1.out.trans (hb2.mono hB1.out.size))
  clear hb2 hB1
  go_wp2_with fail
  refine (is_any c w2 (by omega)).mono ?_
  rintro e w3 ⟨rfl, hb3⟩
  rw [hc.out]
  have hB3 := Lib.hid (hB2.out.trans (hb3.mono hB2.out.size))
  clear hb3 hB2
  go_wp2
  go_ret
  exact ⟨rfl, hB3.out⟩

theorem quotients_any (a b c : ByteArray) (w : World) (hE : Env w) (sa : a.size ≤ 140737488355328) (sb : b.size ≤ 140737488355328) (sc : c.size ≤ 140737488355328) :
    Calls Tryd.prog 8 #[.string a, .string b, .string c] w fun e w' => e = .returned (.bool true) ∧ Below w.heap.size w w' := by
  cases ha : isN a with
  | false => exact quotients_no0 a b c w hE  sa ha
  | true =>
    cases hb : isN b with
    | false => exact quotients_no1 a b c w hE ha sa sb hb
    | true =>
      cases hc : isN c with
      | false => exact quotients_no2 a b c w hE ha sa hb sb sc hc
      | true =>
        obtain ⟨a', ka, rfl⟩ := of_isN ha
        obtain ⟨b', kb, rfl⟩ := of_isN hb
        obtain ⟨c', kc, rfl⟩ := of_isN hc
        exact quotients_walk (ok_some ka) (ok_some kb) (ok_some kc) rfl rfl rfl w hE

end Nt
end Go.Proofs.YtdojfnjgipeogaaDoor

