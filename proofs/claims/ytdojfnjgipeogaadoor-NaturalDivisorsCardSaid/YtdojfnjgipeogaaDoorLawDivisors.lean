/- NaturalDivisors: the walk. -/
import Derived.Test.YtdojfnjgipeogaaDoorNatO
namespace Go.Proofs.YtdojfnjgipeogaaDoor
open Go.RowKit Go.Shelf
namespace Nt

theorem divisors_comm {x y : Option Nat} (okx : Ok x) (oky : Ok y) (hx : x.isSome = true) (hy : y.isSome = true) :
    gcdE x y = 0 ∧ gcdO y x = gcdO x y ∧ gcdE y x = 0 := by
  obtain ⟨a, rfl⟩ := Option.isSome_iff_exists.1 hx
  obtain ⟨b, rfl⟩ := Option.isSome_iff_exists.1 hy
  have hl := gcd_ltL (okx a rfl) (oky b rfl)
  have e : Nat.gcd b a = Nat.gcd a b := Nat.gcd_comm b a
  exact ⟨by simp [gcdE, apE, hl], by simp [gcdO, apO, limO, e], by simp [gcdE, apE, hl, e]⟩

theorem divisors_zeros {x y : Option Nat} (okx : Ok x) (oky : Ok y) (hx : x.isSome = true) (hy : y.isSome = true) :
    (T (gcdO x y)).toList = [48] ↔ (T x).toList = [48] ∧ (T y).toList = [48] := by
  obtain ⟨a, rfl⟩ := Option.isSome_iff_exists.1 hx
  obtain ⟨b, rfl⟩ := Option.isSome_iff_exists.1 hy
  have hl := gcd_ltL (okx a rfl) (oky b rfl)
  have e : gcdO (some a) (some b) = some (Nat.gcd a b) := by simp [gcdO, apO, limO, hl]
  rw [e, toL_zero_iff (ok_some hl), toL_zero_iff okx, toL_zero_iff oky]
  simp [Nat.gcd_eq_zero_iff]

theorem divisors_quo {x y : Option Nat} (okx : Ok x) (oky : Ok y) (hx : x.isSome = true) (hy : y.isSome = true) (h0 : (T (gcdO x y)).toList ≠ [48]) :
    remO x (gcdO x y) = some 0 ∧ quoX x (gcdO x y) = 0 ∧ remO y (gcdO x y) = some 0 ∧ quoX y (gcdO x y) = 0 ∧
      gcdO (quoO x (gcdO x y)) (quoO y (gcdO x y)) = some 1 ∧ gcdE (quoO x (gcdO x y)) (quoO y (gcdO x y)) = 0 := by
  obtain ⟨a, rfl⟩ := Option.isSome_iff_exists.1 hx
  obtain ⟨b, rfl⟩ := Option.isSome_iff_exists.1 hy
  have hl := gcd_ltL (okx a rfl) (oky b rfl)
  have e : gcdO (some a) (some b) = some (Nat.gcd a b) := by simp [gcdO, apO, limO, hl]
  rw [e] at h0 ⊢
  rw [Ne, toL_zero_iff (ok_some hl)] at h0
  have h : Nat.gcd a b ≠ 0 := fun h => h0 (by rw [h])
  have q1 : quoO (some a) (some (Nat.gcd a b)) = some (a / Nat.gcd a b) := by simp only [quoO, if_neg h]
  have q2 : quoO (some b) (some (Nat.gcd a b)) = some (b / Nat.gcd a b) := by simp only [quoO, if_neg h]
  have q3 : Nat.gcd (a / Nat.gcd a b) (b / Nat.gcd a b) = 1 := Nat.coprime_div_gcd_div_gcd (Nat.pos_of_ne_zero h)
  have hone := one_lt_Lim
  rw [q1, q2]
  refine ⟨?_, ?_, ?_, ?_, ?_, ?_⟩
  · simp only [remO, if_neg h, Nat.mod_eq_zero_of_dvd (Nat.gcd_dvd_left a b)]
  · simp only [quoX, if_neg h]
  · simp only [remO, if_neg h, Nat.mod_eq_zero_of_dvd (Nat.gcd_dvd_right a b)]
  · simp only [quoX, if_neg h]
  · simp only [gcdO, apO, limO, q3, if_pos hone]
  · simp only [gcdE, apE, q3, if_pos hone]

theorem divisors_times {x y z : Option Nat} (okx : Ok x) (oky : Ok y) (okz : Ok z) (hx : x.isSome = true) (hy : y.isSome = true) (hz : z.isSome = true) :
    mulE x z ≠ 0 ∨ (mulE x z = 0 ∧ mulE y z ≠ 0) ∨ (mulE x z = 0 ∧ mulE y z = 0 ∧
      gcdO (mulO x z) (mulO y z) = mulO (gcdO x y) z ∧ gcdE (mulO x z) (mulO y z) = 0 ∧ mulE (gcdO x y) z = 0) := by
  obtain ⟨a, rfl⟩ := Option.isSome_iff_exists.1 hx
  obtain ⟨b, rfl⟩ := Option.isSome_iff_exists.1 hy
  obtain ⟨c, rfl⟩ := Option.isSome_iff_exists.1 hz
  have hl := gcd_ltL (okx a rfl) (oky b rfl)
  have e : gcdO (some a) (some b) = some (Nat.gcd a b) := by simp [gcdO, apO, limO, hl]
  by_cases h1 : a * c < Lim
  · have e1 : mulO (some a) (some c) = some (a * c) := by simp [mulO, apO, limO, h1]
    have e2 : mulE (some a) (some c) = 0 := by simp [mulE, apE, h1]
    by_cases h2 : b * c < Lim
    · have e3 : mulO (some b) (some c) = some (b * c) := by simp [mulO, apO, limO, h2]
      have e4 : mulE (some b) (some c) = 0 := by simp [mulE, apE, h2]
      have l2 := gcd_ltL h1 h2
      have l3 : Nat.gcd (a * c) (b * c) = Nat.gcd a b * c := Nat.gcd_mul_right a c b
      rw [e, e1, e2, e3, e4]
      refine .inr (.inr ⟨rfl, rfl, ?_, ?_, ?_⟩)
      · simp only [gcdO, mulO, apO, l3]
      · simp only [gcdE, apE, if_pos l2]
      · rw [l3] at l2; simp only [mulE, apE, if_pos l2]
    · exact .inr (.inl ⟨e2, by simp [mulE, apE, h2]⟩)
  · exact .inl (by simp [mulE, apE, h1])

set_option maxRecDepth 100000 in
set_option maxHeartbeats 4000000 in
theorem divisors_zero {x y z : Option Nat} (okx : Ok x) (oky : Ok y) (okz : Ok z) (hx : x.isSome = true) (hy : y.isSome = true) (hz : z.isSome = true) (h0 : (T x).toList = [48]) (h1 : (T y).toList = [48]) (w : World) (hE : Env w) :
    Calls Tryd.prog 4 #[.string (T x), .string (T y), .string (T z)] w fun e w' => e = .returned (.bool true) ∧ Below w.heap.size w w' := by
  replace hE := Lib.hid hE
  have HA := Lib.hid (divisors_comm okx oky hx hy)
  have HB := Lib.hid (divisors_times okx oky okz hx hy hz)
  have HZ : Hid ((T (gcdO x y)).toList = [48]) := (divisors_zeros okx oky hx hy).2 ⟨h0, h1⟩
  replace okx := Lib.hid okx
  replace oky := Lib.hid oky
  replace okz := Lib.hid okz
  have h0 : ((T x).toList == [48]) = true := by rw [h0]; rfl
  have h1 : ((T y).toList == [48]) = true := by rw [h1]; rfl
  have h2 : ((T (gcdO x y)).toList == [48]) = true := by rw [HZ.out]; rfl
  clear HZ
  go_enter Tryd.func4, Tryd.ntmps4
  go_wp2_with fail
  refine (head_any w hE.out).mono ?_
  rintro e w0 ⟨rfl, hb0⟩
  have hB0 := Lib.hid hb0
  clear hb0
  go_wp2_with fail
  refine (isOk x okx.out w0).mono ?_
  rintro e w1 ⟨rfl, hb1⟩
  rw [hx]
  have hB1 := Lib.hid (hB0.out.trans (hb1.mono hB0.out.size))
  clear hb1 hB0
  go_wp2_with fail
  refine (isOk y oky.out w1).mono ?_
  rintro e w2 ⟨rfl, hb2⟩
  rw [hy]
  have hB2 := Lib.hid (hB1.out.trans (hb2.mono hB1.out.size))
  clear hb2 hB1
  go_wp2_with fail
  refine (isOk z okz.out w2).mono ?_
  rintro e w3 ⟨rfl, hb3⟩
  rw [hz]
  have hB3 := Lib.hid (hB2.out.trans (hb3.mono hB2.out.size))
  clear hb3 hB2
  go_wp2_with fail
  refine (gcdT x y w3 (hE.out.below hB3.out) okx.out oky.out).mono ?_
  rintro e w4 ⟨rfl, hb4⟩
  rw [HA.out.1]
  have hB4 := Lib.hid (hB3.out.trans (hb4.mono hB3.out.size))
  clear hb4 hB3
  go_wp2_with fail
  refine (gcdT y x w4 (hE.out.below hB4.out) oky.out okx.out).mono ?_
  rintro e w5 ⟨rfl, hb5⟩
  rw [HA.out.2.1]
  rw [HA.out.2.2]
  have hB5 := Lib.hid (hB4.out.trans (hb5.mono hB4.out.size))
  clear hb5 hB4
  go_wp2_with fail
  refine (mulT x z w5 (hE.out.below hB5.out) okx.out okz.out).mono ?_
  rintro e w6 ⟨rfl, hb6⟩
  have hB6 := Lib.hid (hB5.out.trans (hb6.mono hB5.out.size))
  clear hb6 hB5
  go_wp2_with fail
  refine (mulT y z w6 (hE.out.below hB6.out) oky.out okz.out).mono ?_
  rintro e w7 ⟨rfl, hb7⟩
  have hB7 := Lib.hid (hB6.out.trans (hb7.mono hB6.out.size))
  clear hb7 hB6
  rcases HB.out with h1 | ⟨h1, h2⟩ | ⟨h1, h2, h3⟩
  · have h1 : (mulE x z == 0) = false := by simpa using h1
    go_wp2
    go_ret
    exact ⟨rfl, hB7.out⟩
  · have h2 : (mulE y z == 0) = false := by simpa using h2
    rw [h1]
    go_wp2
    go_ret
    exact ⟨rfl, hB7.out⟩
  · have HK := Lib.hid h3
    rw [h1, h2]
    clear h3
    go_wp2_with fail
    refine (gcdT (mulO x z) (mulO y z) w7 (hE.out.below hB7.out) (ok_mul _ _) (ok_mul _ _)).mono ?_
    rintro e w8 ⟨rfl, hb8⟩
    rw [HK.out.1]
    rw [HK.out.2.1]
    have hB8 := Lib.hid (hB7.out.trans (hb8.mono hB7.out.size))
    clear hb8 hB7
    go_wp2_with fail
    refine (mulT (gcdO x y) z w8 (hE.out.below hB8.out) (ok_gcd _ _) okz.out).mono ?_
    rintro e w9 ⟨rfl, hb9⟩
    rw [HK.out.2.2]
    have hB9 := Lib.hid (hB8.out.trans (hb9.mono hB8.out.size))
    clear hb9 hB8
    go_wp2
    go_ret
    exact ⟨rfl, hB9.out⟩

set_option maxRecDepth 100000 in
set_option maxHeartbeats 4000000 in
theorem divisors_main {x y z : Option Nat} (okx : Ok x) (oky : Ok y) (okz : Ok z) (hx : x.isSome = true) (hy : y.isSome = true) (hz : z.isSome = true) (h0 : (T (gcdO x y)).toList ≠ [48]) (h1 : ((T x).toList == [48]) = false ∨ (((T x).toList == [48]) = true ∧ ((T y).toList == [48]) = false)) (w : World) (hE : Env w) :
    Calls Tryd.prog 4 #[.string (T x), .string (T y), .string (T z)] w fun e w' => e = .returned (.bool true) ∧ Below w.heap.size w w' := by
  replace hE := Lib.hid hE
  have HA := Lib.hid (divisors_comm okx oky hx hy)
  have HB := Lib.hid (divisors_times okx oky okz hx hy hz)
  have HC := Lib.hid (divisors_quo okx oky hx hy h0)
  replace okx := Lib.hid okx
  replace oky := Lib.hid oky
  replace okz := Lib.hid okz
  have h0 : ((T (gcdO x y)).toList == [48]) = false := by simpa using h0
  replace h1 := Lib.hid h1
  go_enter Tryd.func4, Tryd.ntmps4
  go_wp2_with fail
  refine (head_any w hE.out).mono ?_
  rintro e w0 ⟨rfl, hb0⟩
  have hB0 := Lib.hid hb0
  clear hb0
  go_wp2_with fail
  refine (isOk x okx.out w0).mono ?_
  rintro e w1 ⟨rfl, hb1⟩
  rw [hx]
  have hB1 := Lib.hid (hB0.out.trans (hb1.mono hB0.out.size))
  clear hb1 hB0
  go_wp2_with fail
  refine (isOk y oky.out w1).mono ?_
  rintro e w2 ⟨rfl, hb2⟩
  rw [hy]
  have hB2 := Lib.hid (hB1.out.trans (hb2.mono hB1.out.size))
  clear hb2 hB1
  go_wp2_with fail
  refine (isOk z okz.out w2).mono ?_
  rintro e w3 ⟨rfl, hb3⟩
  rw [hz]
  have hB3 := Lib.hid (hB2.out.trans (hb3.mono hB2.out.size))
  clear hb3 hB2
  go_wp2_with fail
  refine (gcdT x y w3 (hE.out.below hB3.out) okx.out oky.out).mono ?_
  rintro e w4 ⟨rfl, hb4⟩
  rw [HA.out.1]
  have hB4 := Lib.hid (hB3.out.trans (hb4.mono hB3.out.size))
  clear hb4 hB3
  go_wp2_with fail
  refine (gcdT y x w4 (hE.out.below hB4.out) oky.out okx.out).mono ?_
  rintro e w5 ⟨rfl, hb5⟩
  rw [HA.out.2.1]
  rw [HA.out.2.2]
  have hB5 := Lib.hid (hB4.out.trans (hb5.mono hB4.out.size))
  clear hb5 hB4
  rcases h1.out with h2 | ⟨h2, h3⟩
  · go_wp2_with fail
    refine (divT x (gcdO x y) w5 (hE.out.below hB5.out) okx.out (ok_gcd _ _)).mono ?_
    rintro e w6 ⟨rfl, hb6⟩
    rw [HC.out.1]
    rw [HC.out.2.1]
    have hB6 := Lib.hid (hB5.out.trans (hb6.mono hB5.out.size))
    clear hb6 hB5
    go_wp2_with fail
    refine (divT y (gcdO x y) w6 (hE.out.below hB6.out) oky.out (ok_gcd _ _)).mono ?_
    rintro e w7 ⟨rfl, hb7⟩
    rw [HC.out.2.2.1]
    rw [HC.out.2.2.2.1]
    have hB7 := Lib.hid (hB6.out.trans (hb7.mono hB6.out.size))
    clear hb7 hB6
    go_wp2_with fail
    refine (gcdT (quoO x (gcdO x y)) (quoO y (gcdO x y)) w7 (hE.out.below hB7.out) (ok_quo okx.out) (ok_quo oky.out)).mono ?_
    rintro e w8 ⟨rfl, hb8⟩
    rw [HC.out.2.2.2.2.1]
    rw [HC.out.2.2.2.2.2]
    rw [T_zero, T_one]
    have hB8 := Lib.hid (hB7.out.trans (hb8.mono hB7.out.size))
    clear hb8 hB7
    go_wp2_with fail
    refine (mulT x z w8 (hE.out.below hB8.out) okx.out okz.out).mono ?_
    rintro e w9 ⟨rfl, hb9⟩
    have hB9 := Lib.hid (hB8.out.trans (hb9.mono hB8.out.size))
    clear hb9 hB8
    go_wp2_with fail
    refine (mulT y z w9 (hE.out.below hB9.out) oky.out okz.out).mono ?_
    rintro e w10 ⟨rfl, hb10⟩
    have hB10 := Lib.hid (hB9.out.trans (hb10.mono hB9.out.size))
    clear hb10 hB9
    rcases HB.out with h1 | ⟨h1, h2⟩ | ⟨h1, h2, h3⟩
    · have h1 : (mulE x z == 0) = false := by simpa using h1
      go_wp2
      go_ret
      exact ⟨rfl, hB10.out⟩
    · have h2 : (mulE y z == 0) = false := by simpa using h2
      rw [h1]
      go_wp2
      go_ret
      exact ⟨rfl, hB10.out⟩
    · have HK := Lib.hid h3
      rw [h1, h2]
      clear h3
      go_wp2_with fail
      refine (gcdT (mulO x z) (mulO y z) w10 (hE.out.below hB10.out) (ok_mul _ _) (ok_mul _ _)).mono ?_
      rintro e w11 ⟨rfl, hb11⟩
      rw [HK.out.1]
      rw [HK.out.2.1]
      have hB11 := Lib.hid (hB10.out.trans (hb11.mono hB10.out.size))
      clear hb11 hB10
      go_wp2_with fail
      refine (mulT (gcdO x y) z w11 (hE.out.below hB11.out) (ok_gcd _ _) okz.out).mono ?_
      rintro e w12 ⟨rfl, hb12⟩
      rw [HK.out.2.2]
      have hB12 := Lib.hid (hB11.out.trans (hb12.mono hB11.out.size))
      clear hb12 hB11
      go_wp2
      go_ret
      exact ⟨rfl, hB12.out⟩
  · go_wp2_with fail
    refine (divT x (gcdO x y) w5 (hE.out.below hB5.out) okx.out (ok_gcd _ _)).mono ?_
    rintro e w6 ⟨rfl, hb6⟩
    rw [HC.out.1]
    rw [HC.out.2.1]
    have hB6 := Lib.hid (hB5.out.trans (hb6.mono hB5.out.size))
    clear hb6 hB5
    go_wp2_with fail
    refine (divT y (gcdO x y) w6 (hE.out.below hB6.out) oky.out (ok_gcd _ _)).mono ?_
    rintro e w7 ⟨rfl, hb7⟩
    rw [HC.out.2.2.1]
    rw [HC.out.2.2.2.1]
    have hB7 := Lib.hid (hB6.out.trans (hb7.mono hB6.out.size))
    clear hb7 hB6
    go_wp2_with fail
    refine (gcdT (quoO x (gcdO x y)) (quoO y (gcdO x y)) w7 (hE.out.below hB7.out) (ok_quo okx.out) (ok_quo oky.out)).mono ?_
    rintro e w8 ⟨rfl, hb8⟩
    rw [HC.out.2.2.2.2.1]
    rw [HC.out.2.2.2.2.2]
    rw [T_zero, T_one]
    have hB8 := Lib.hid (hB7.out.trans (hb8.mono hB7.out.size))
    clear hb8 hB7
    go_wp2_with fail
    refine (mulT x z w8 (hE.out.below hB8.out) okx.out okz.out).mono ?_
    rintro e w9 ⟨rfl, hb9⟩
    have hB9 := Lib.hid (hB8.out.trans (hb9.mono hB8.out.size))
    clear hb9 hB8
    go_wp2_with fail
    refine (mulT y z w9 (hE.out.below hB9.out) oky.out okz.out).mono ?_
    rintro e w10 ⟨rfl, hb10⟩
    have hB10 := Lib.hid (hB9.out.trans (hb10.mono hB9.out.size))
    clear hb10 hB9
    rcases HB.out with h1 | ⟨h1, h2⟩ | ⟨h1, h2, h3⟩
    · have h1 : (mulE x z == 0) = false := by simpa using h1
      go_wp2
      go_ret
      exact ⟨rfl, hB10.out⟩
    · have h2 : (mulE y z == 0) = false := by simpa using h2
      rw [h1]
      go_wp2
      go_ret
      exact ⟨rfl, hB10.out⟩
    · have HK := Lib.hid h3
      rw [h1, h2]
      clear h3
      go_wp2_with fail
      refine (gcdT (mulO x z) (mulO y z) w10 (hE.out.below hB10.out) (ok_mul _ _) (ok_mul _ _)).mono ?_
      rintro e w11 ⟨rfl, hb11⟩
      rw [HK.out.1]
      rw [HK.out.2.1]
      have hB11 := Lib.hid (hB10.out.trans (hb11.mono hB10.out.size))
      clear hb11 hB10
      go_wp2_with fail
      refine (mulT (gcdO x y) z w11 (hE.out.below hB11.out) (ok_gcd _ _) okz.out).mono ?_
      rintro e w12 ⟨rfl, hb12⟩
      rw [HK.out.2.2]
      have hB12 := Lib.hid (hB11.out.trans (hb12.mono hB11.out.size))
      clear hb12 hB11
      go_wp2
      go_ret
      exact ⟨rfl, hB12.out⟩

theorem divisors_walk {x y z : Option Nat} (okx : Ok x) (oky : Ok y) (okz : Ok z) (hx : x.isSome = true) (hy : y.isSome = true) (hz : z.isSome = true) (w : World) (hE : Env w) :
    Calls Tryd.prog 4 #[.string (T x), .string (T y), .string (T z)] w fun e w' => e = .returned (.bool true) ∧ Below w.heap.size w w' := by
  have hi := divisors_zeros okx oky hx hy
  by_cases h0 : (T x).toList = [48]
  · by_cases h1 : (T y).toList = [48]
    · exact divisors_zero okx oky okz hx hy hz h0 h1 w hE
    · exact divisors_main okx oky okz hx hy hz (fun h => h1 (hi.1 h).2) (.inr ⟨by rw [h0]; rfl, by simpa using h1⟩) w hE
  · exact divisors_main okx oky okz hx hy hz (fun h => h0 (hi.1 h).1) (.inl (by simpa using h0)) w hE

set_option maxRecDepth 100000 in
set_option maxHeartbeats 4000000 in
theorem divisors_no0 (a b c : ByteArray) (w : World) (hE : Env w)  (sa : a.size ≤ 140737488355328) (ha : isN a = false) :
    Calls Tryd.prog 4 #[.string a, .string b, .string c] w fun e w' => e = .returned (.bool true) ∧ Below w.heap.size w w' := by
  replace hE := Lib.hid hE
  replace ha := Lib.hid ha
  go_enter Tryd.func4, Tryd.ntmps4
  go_wp2_with fail
  refine (head_any w hE.out).mono ?_
  rintro e w0 ⟨rfl, hb0⟩
  have hB0 := Lib.hid hb0
  clear hb0
  go_wp2_with fail
  refine (is_any a w0 (by omega)).mono ?_
  rintro e w1 ⟨rfl, hb1⟩
  rw [ha.out]
  have hB1 := Lib.hid (hB0.out.trans (hb1.mono hB0.out.size))
  clear hb1 hB0
  go_wp2
  go_ret
  exact ⟨rfl, hB1.out⟩

set_option maxRecDepth 100000 in
set_option maxHeartbeats 4000000 in
theorem divisors_no1 (a b c : ByteArray) (w : World) (hE : Env w) (ha : isN a = true) (sa : a.size ≤ 140737488355328) (sb : b.size ≤ 140737488355328) (hb : isN b = false) :
    Calls Tryd.prog 4 #[.string a, .string b, .string c] w fun e w' => e = .returned (.bool true) ∧ Below w.heap.size w w' := by
  replace hE := Lib.hid hE
  replace ha := Lib.hid ha
  replace hb := Lib.hid hb
  go_enter Tryd.func4, Tryd.ntmps4
  go_wp2_with fail
  refine (head_any w hE.out).mono ?_
  rintro e w0 ⟨rfl, hb0⟩
  have hB0 := Lib.hid hb0
  clear hb0
  go_wp2_with fail
  refine (is_any a w0 (by omega)).mono ?_
  rintro e w1 ⟨rfl, hb1⟩
  rw [ha.out]
  have hB1 := Lib.hid (hB0.out.trans (hb1.mono hB0.out.size))
  clear hb1 hB0
  go_wp2_with fail
  refine (is_any b w1 (by omega)).mono ?_
  rintro e w2 ⟨rfl, hb2⟩
  rw [hb.out]
  have hB2 := Lib.hid (hB1.out.trans (hb2.mono hB1.out.size))
  clear hb2 hB1
  go_wp2
  go_ret
  exact ⟨rfl, hB2.out⟩

set_option maxRecDepth 100000 in
set_option maxHeartbeats 4000000 in
theorem divisors_no2 (a b c : ByteArray) (w : World) (hE : Env w) (ha : isN a = true) (sa : a.size ≤ 140737488355328) (hb : isN b = true) (sb : b.size ≤ 140737488355328) (sc : c.size ≤ 140737488355328) (hc : isN c = false) :
    Calls Tryd.prog 4 #[.string a, .string b, .string c] w fun e w' => e = .returned (.bool true) ∧ Below w.heap.size w w' := by
  replace hE := Lib.hid hE
  replace ha := Lib.hid ha
  replace hb := Lib.hid hb
  replace hc := Lib.hid hc
  go_enter Tryd.func4, Tryd.ntmps4
  go_wp2_with fail
  refine (head_any w hE.out).mono ?_
  rintro e w0 ⟨rfl, hb0⟩
  have hB0 := Lib.hid hb0
  clear hb0
  go_wp2_with fail
  refine (is_any a w0 (by omega)).mono ?_
  rintro e w1 ⟨rfl, hb1⟩
  rw [ha.out]
  have hB1 := Lib.hid (hB0.out.trans (hb1.mono hB0.out.size))
  clear hb1 hB0
  go_wp2_with fail
  refine (is_any b w1 (by omega)).mono ?_
  rintro e w2 ⟨rfl, hb2⟩
  rw [hb.out]
  have hB2 := Lib.hid (hB1.out.trans (hb2.mono hB1.out.size))
  clear hb2 hB1
  go_wp2_with fail
  refine (is_any c w2 (by omega)).mono ?_
  rintro e w3 ⟨rfl, hb3⟩
  rw [hc.out]
  have hB3 := Lib.hid (hB2.out.trans (hb3.mono hB2.out.size))
  clear hb3 hB2
  go_wp2
  go_ret
  exact ⟨rfl, hB3.out⟩

theorem divisors_any (a b c : ByteArray) (w : World) (hE : Env w) (sa : a.size ≤ 140737488355328) (sb : b.size ≤ 140737488355328) (sc : c.size ≤ 140737488355328) :
    Calls Tryd.prog 4 #[.string a, .string b, .string c] w fun e w' => e = .returned (.bool true) ∧ Below w.heap.size w w' := by
  cases ha : isN a with
  | false => exact divisors_no0 a b c w hE  sa ha
  | true =>
    cases hb : isN b with
    | false => exact divisors_no1 a b c w hE ha sa sb hb
    | true =>
      cases hc : isN c with
      | false => exact divisors_no2 a b c w hE ha sa hb sb sc hc
      | true =>
        obtain ⟨a', ka, rfl⟩ := of_isN ha
        obtain ⟨b', kb, rfl⟩ := of_isN hb
        obtain ⟨c', kc, rfl⟩ := of_isN hc
        exact divisors_walk (ok_some ka) (ok_some kb) (ok_some kc) rfl rfl rfl w hE

end Nt
end Go.Proofs.YtdojfnjgipeogaaDoor

