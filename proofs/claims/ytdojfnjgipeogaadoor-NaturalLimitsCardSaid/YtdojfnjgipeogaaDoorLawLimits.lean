/- NaturalLimits: the walk. -/
import Derived.Test.YtdojfnjgipeogaaDoorNatZeros
namespace Go.Proofs.YtdojfnjgipeogaaDoor
open Go.RowKit Go.Shelf
namespace Nt

theorem ok_pw {i : Nat} (h : i < 300) : Ok (some (pw i)) := ok_some ((pw_lim i).2 h)
theorem isZ (i : Nat) (w : World) (h : i ≤ 320) : Calls Tryd.prog 14 #[.string (T (some (pw i)))] w fun e w' => e = .returned (.bool (decide (i < 300))) ∧ Below w.heap.size w w' := by
  have hs : (T (some (pw i))).size = i + 1 := by
    show (num (pw i)).size = _
    unfold num
    rw [← zlist_dec]
    simp [ByteArray.size, zlist]
  have := is_any (T (some (pw i))) w (by omega)
  have e : isN (T (some (pw i))) = decide (i < 300) := by
    rw [Bool.eq_iff_iff, decide_eq_true_iff, ← pw_lim]
    exact isN_num_iff _
  rwa [e] at this
theorem limits_over_mul {i j : Nat} (h : 300 ≤ i + j) : T (mulO (some (pw i)) (some (pw j))) = ⟨#[]⟩ := by
  have : ¬ pw i * pw j < Lim := by rw [pw_add, pw_lim]; omega
  have e : mulO (some (pw i)) (some (pw j)) = none := by simp [mulO, apO, limO, this]
  rw [e]
  rfl
theorem limits_over_err {i j : Nat} (h : 300 ≤ i + j) : mulE (some (pw i)) (some (pw j)) = 2 := by
  have : ¬ pw i * pw j < Lim := by rw [pw_add, pw_lim]; omega
  simp [mulE, apE, this]
theorem limits_in_mul {i j : Nat} (h : i + j < 300) : mulO (some (pw i)) (some (pw j)) = some (pw (i + j)) := by
  have : pw (i + j) < Lim := by rw [pw_lim]; omega
  simp only [mulO, apO, limO, pw_add, if_pos this]
theorem limits_in_err {i j : Nat} (h : i + j < 300) : mulE (some (pw i)) (some (pw j)) = 0 := by
  have : pw i * pw j < Lim := by rw [pw_add, pw_lim]; omega
  simp [mulE, apE, this]
def pm (i : Nat) : Nat := pw i - 1
theorem ok_pm {i : Nat} (h : i < 300) : Ok (some (pm i)) := ok_some (by have := (pw_lim i).2 h; unfold pm; omega)
theorem subOne (i : Nat) (w : World) (hE : Env w) (h : i < 300) : Calls Tryd.prog 20 #[.string (T (some (pw i))), .string ⟨#[49]⟩] w fun e w' => e = .returned (.tuple #[.string (T (some (pm i))), .int .i64 0]) ∧ Below w.heap.size w w' := by
  have := subT (some (pw i)) (some 1) w hE (ok_pw h) (ok_some one_lt_Lim)
  have hp := pw_pos i
  rw [show subO (some (pw i)) (some 1) = some (pm i) from if_pos hp, show subX (some (pw i)) (some 1) = 0 from if_pos hp, T_one] at this
  exact this
theorem addOne (i : Nat) (w : World) (hE : Env w) (h : i < 300) : Calls Tryd.prog 19 #[.string (T (some (pm i))), .string ⟨#[49]⟩] w fun e w' => e = .returned (.tuple #[.string (T (some (pw i))), .int .i64 0]) ∧ Below w.heap.size w w' := by
  have := addT (some (pm i)) (some 1) w hE (ok_pm h) (ok_some one_lt_Lim)
  have hp := pw_pos i
  have hl := (pw_lim i).2 h
  have e : pm i + 1 = pw i := by unfold pm; omega
  rw [show sumO (some (pm i)) (some 1) = some (pw i) by simp only [sumO, apO, e, limO, if_pos hl], show sumE (some (pm i)) (some 1) = 0 by simp only [sumE, apE, e, if_pos hl], T_one] at this
  exact this
theorem limits_size0 (i : Nat) : (T (some (pm i))).size = max 1 i := by
  show (num (pm i)).size = _
  have e : (num (pm i)).size = (Lib.decDigits (pm i)).length := by simp [num, ByteArray.size]
  rw [e]
  have h1 : pm i < 10 ^ i := by unfold pm; rw [pw_eq]; have : 0 < 10 ^ i := Nat.pow_pos (by omega); omega
  rcases Nat.eq_zero_or_pos i with h | h
  · subst h
    have : pm 0 = 0 := by unfold pm; rw [pw_eq]
    rw [this, Lib.decDigits_one (by omega)]
    rfl
  · have h2 := decDigits_len h1 h
    have h3 : ¬ (Lib.decDigits (pm i)).length ≤ i - 1 := by
      intro hc
      rcases Nat.eq_zero_or_pos (i - 1) with h0 | h0
      · rw [h0] at hc
        have := decDigits_ne (pm i)
        exact this (List.length_eq_zero_iff.1 (by omega))
      · have h4 := (decDigits_len_iff (pm i) (i - 1) h0).1 hc
        unfold pm at h4
        rw [pw_eq] at h4
        have h5 : 10 ^ i = 10 ^ (i - 1) * 10 := by rw [← Nat.pow_succ]; congr 1; omega
        have h6 : 0 < 10 ^ (i - 1) := Nat.pow_pos (by omega)
        omega
    omega
theorem limits_size (i : Nat) : (T (some (pm i))).size ≤ max 1 i := by rw [limits_size0]; exact Nat.le_refl _
theorem limits_len (i : Nat) : (((T (some (pm i))).size : Int) == max (1 : Int) (i : Int)) = true := by rw [limits_size0, beq_iff_eq]; omega

set_option maxRecDepth 100000 in
set_option maxHeartbeats 4000000 in
theorem limits_big (p q i j : Nat) (hp : p < 65536) (hq : q < 65536) (hi : p % 321 = i) (hj : q % 321 = j) (ci : 300 ≤ i) (w : World) (hE : Env w) :
    Calls Tryd.prog 9 #[.int .u16 (p : Int), .int .u16 (q : Int)] w fun e w' => e = .returned (.bool true) ∧ Below w.heap.size w w' := by
  replace hE := Lib.hid hE
  have e1 : Hid ((p : Int) % 321 = (i : Int)) := by unfold Hid; omega
  have e2 : Hid ((q : Int) % 321 = (j : Int)) := by unfold Hid; omega
  have bi : i ≤ 320 := by omega
  have bj : j ≤ 320 := by omega
  clear hi hj
  have HI : Hid (decide (i < 300) = false) := by unfold Hid; simp; omega
  have f1 : decide ((i : Int) < 300) = false := by simp; omega
  have f2 : decide ((300 : Int) ≤ (i : Int)) = true := by simp; omega
  go_enter Tryd.func9, Tryd.ntmps9
  go_wp2_with fail
  refine (head_any w hE.out).mono ?_
  rintro e w0 ⟨rfl, hb0⟩
  have hB0 := Lib.hid hb0
  clear hb0
  go_wp2_with fail
  rw [e1.out, e2.out]
  clear e1 e2 hp hq
  refine (zeros_any i w0 (by omega)).mono ?_
  rintro e w1 ⟨rfl, hb1⟩
  have hB1 := Lib.hid (hB0.out.trans (hb1.mono hB0.out.size))
  clear hb1 hB0
  go_wp2_with fail
  refine (zeros_any j w1 (by omega)).mono ?_
  rintro e w2 ⟨rfl, hb2⟩
  have hB2 := Lib.hid (hB1.out.trans (hb2.mono hB1.out.size))
  clear hb2 hB1
  go_wp2_with fail
  refine (isZ i w2 (by omega)).mono ?_
  rintro e w3 ⟨rfl, hb3⟩
  rw [HI.out]
  have hB3 := Lib.hid (hB2.out.trans (hb3.mono hB2.out.size))
  clear hb3 hB2
  go_wp2
  go_ret
  exact ⟨rfl, hB3.out⟩

set_option maxRecDepth 100000 in
set_option maxHeartbeats 4000000 in
theorem limits_big2 (p q i j : Nat) (hp : p < 65536) (hq : q < 65536) (hi : p % 321 = i) (hj : q % 321 = j) (ci : i < 300) (cj : 300 ≤ j) (w : World) (hE : Env w) :
    Calls Tryd.prog 9 #[.int .u16 (p : Int), .int .u16 (q : Int)] w fun e w' => e = .returned (.bool true) ∧ Below w.heap.size w w' := by
  replace hE := Lib.hid hE
  have e1 : Hid ((p : Int) % 321 = (i : Int)) := by unfold Hid; omega
  have e2 : Hid ((q : Int) % 321 = (j : Int)) := by unfold Hid; omega
  have bi : i ≤ 320 := by omega
  have bj : j ≤ 320 := by omega
  clear hi hj
  have HI : Hid (decide (i < 300) = true) := by unfold Hid; simp; omega
  have f1 : decide ((i : Int) < 300) = true := by simp; omega
  have f2 : decide ((300 : Int) ≤ (i : Int)) = false := by simp; omega
  have f3 : decide ((300 : Int) ≤ (j : Int)) = true := by simp; omega
  go_enter Tryd.func9, Tryd.ntmps9
  go_wp2_with fail
  refine (head_any w hE.out).mono ?_
  rintro e w0 ⟨rfl, hb0⟩
  have hB0 := Lib.hid hb0
  clear hb0
  go_wp2_with fail
  rw [e1.out, e2.out]
  clear e1 e2 hp hq
  refine (zeros_any i w0 (by omega)).mono ?_
  rintro e w1 ⟨rfl, hb1⟩
  have hB1 := Lib.hid (hB0.out.trans (hb1.mono hB0.out.size))
  clear hb1 hB0
  go_wp2_with fail
  refine (zeros_any j w1 (by omega)).mono ?_
  rintro e w2 ⟨rfl, hb2⟩
  have hB2 := Lib.hid (hB1.out.trans (hb2.mono hB1.out.size))
  clear hb2 hB1
  go_wp2_with fail
  refine (isZ i w2 (by omega)).mono ?_
  rintro e w3 ⟨rfl, hb3⟩
  rw [HI.out]
  have hB3 := Lib.hid (hB2.out.trans (hb3.mono hB2.out.size))
  clear hb3 hB2
  go_wp2
  go_ret
  exact ⟨rfl, hB3.out⟩

set_option maxRecDepth 100000 in
set_option maxHeartbeats 4000000 in
theorem limits_over (p q i j : Nat) (hp : p < 65536) (hq : q < 65536) (hi : p % 321 = i) (hj : q % 321 = j) (ci : i < 300) (cj : j < 300) (cs : 300 ≤ i + j) (w : World) (hE : Env w) :
    Calls Tryd.prog 9 #[.int .u16 (p : Int), .int .u16 (q : Int)] w fun e w' => e = .returned (.bool true) ∧ Below w.heap.size w w' := by
  replace hE := Lib.hid hE
  have e1 : Hid ((p : Int) % 321 = (i : Int)) := by unfold Hid; omega
  have e2 : Hid ((q : Int) % 321 = (j : Int)) := by unfold Hid; omega
  have bi : i ≤ 320 := by omega
  have bj : j ≤ 320 := by omega
  clear hi hj
  have HI : Hid (decide (i < 300) = true) := by unfold Hid; simp; omega
  have f1 : decide ((i : Int) < 300) = true := by simp; omega
  have f2 : decide ((300 : Int) ≤ (i : Int)) = false := by simp; omega
  have f3 : decide ((300 : Int) ≤ (j : Int)) = false := by simp; omega
  have f4 : decide ((300 : Int) ≤ (i : Int) + (j : Int)) = true := by simp; omega
  have f5 : decide ((i : Int) + (j : Int) < 300) = false := by simp; omega
  go_enter Tryd.func9, Tryd.ntmps9
  go_wp2_with fail
  refine (head_any w hE.out).mono ?_
  rintro e w0 ⟨rfl, hb0⟩
  have hB0 := Lib.hid hb0
  clear hb0
  go_wp2_with fail
  rw [e1.out, e2.out]
  clear e1 e2 hp hq
  refine (zeros_any i w0 (by omega)).mono ?_
  rintro e w1 ⟨rfl, hb1⟩
  have hB1 := Lib.hid (hB0.out.trans (hb1.mono hB0.out.size))
  clear hb1 hB0
  go_wp2_with fail
  refine (zeros_any j w1 (by omega)).mono ?_
  rintro e w2 ⟨rfl, hb2⟩
  have hB2 := Lib.hid (hB1.out.trans (hb2.mono hB1.out.size))
  clear hb2 hB1
  go_wp2_with fail
  refine (isZ i w2 (by omega)).mono ?_
  rintro e w3 ⟨rfl, hb3⟩
  rw [HI.out]
  have hB3 := Lib.hid (hB2.out.trans (hb3.mono hB2.out.size))
  clear hb3 hB2
  go_wp2_with fail
  refine (mulT (some (pw i)) (some (pw j)) w3 (hE.out.below hB3.out) (ok_pw ci) (ok_pw cj)).mono ?_
  rintro e w4 ⟨rfl, hb4⟩
  rw [limits_over_mul cs, limits_over_err cs]
  have hB4 := Lib.hid (hB3.out.trans (hb4.mono hB3.out.size))
  clear hb4 hB3
  go_wp2_with fail
  refine (subOne i w4 (hE.out.below hB4.out) ci).mono ?_
  rintro e w5 ⟨rfl, hb5⟩
  have hB5 := Lib.hid (hB4.out.trans (hb5.mono hB4.out.size))
  clear hb5 hB4
  go_wp2_with fail
  refine (addOne i w5 (hE.out.below hB5.out) ci).mono ?_
  rintro e w6 ⟨rfl, hb6⟩
  have hB6 := Lib.hid (hB5.out.trans (hb6.mono hB5.out.size))
  clear hb6 hB5
  have hm := limits_len i
  have hs := limits_size i
  go_wp2
  go_ret
  exact ⟨rfl, hB6.out⟩

set_option maxRecDepth 100000 in
set_option maxHeartbeats 4000000 in
theorem limits_in (p q i j : Nat) (hp : p < 65536) (hq : q < 65536) (hi : p % 321 = i) (hj : q % 321 = j) (cs : i + j < 300) (w : World) (hE : Env w) :
    Calls Tryd.prog 9 #[.int .u16 (p : Int), .int .u16 (q : Int)] w fun e w' => e = .returned (.bool true) ∧ Below w.heap.size w w' := by
  replace hE := Lib.hid hE
  have e1 : Hid ((p : Int) % 321 = (i : Int)) := by unfold Hid; omega
  have e2 : Hid ((q : Int) % 321 = (j : Int)) := by unfold Hid; omega
  have bi : i ≤ 320 := by omega
  have bj : j ≤ 320 := by omega
  clear hi hj
  have ci : i < 300 := by omega
  have cj : j < 300 := by omega
  have HI : Hid (decide (i < 300) = true) := by unfold Hid; simp; omega
  have f1 : decide ((i : Int) < 300) = true := by simp; omega
  have f2 : decide ((300 : Int) ≤ (i : Int)) = false := by simp; omega
  have f3 : decide ((300 : Int) ≤ (j : Int)) = false := by simp; omega
  have f4 : decide ((300 : Int) ≤ (i : Int) + (j : Int)) = false := by simp; omega
  have f5 : decide ((i : Int) + (j : Int) < 300) = true := by simp; omega
  go_enter Tryd.func9, Tryd.ntmps9
  go_wp2_with fail
  refine (head_any w hE.out).mono ?_
  rintro e w0 ⟨rfl, hb0⟩
  have hB0 := Lib.hid hb0
  clear hb0
  go_wp2_with fail
  rw [e1.out, e2.out]
  clear e1 e2 hp hq
  refine (zeros_any i w0 (by omega)).mono ?_
  rintro e w1 ⟨rfl, hb1⟩
  have hB1 := Lib.hid (hB0.out.trans (hb1.mono hB0.out.size))
  clear hb1 hB0
  go_wp2_with fail
  refine (zeros_any j w1 (by omega)).mono ?_
  rintro e w2 ⟨rfl, hb2⟩
  have hB2 := Lib.hid (hB1.out.trans (hb2.mono hB1.out.size))
  clear hb2 hB1
  go_wp2_with fail
  refine (isZ i w2 (by omega)).mono ?_
  rintro e w3 ⟨rfl, hb3⟩
  rw [HI.out]
  have hB3 := Lib.hid (hB2.out.trans (hb3.mono hB2.out.size))
  clear hb3 hB2
  go_wp2_with fail
  refine (mulT (some (pw i)) (some (pw j)) w3 (hE.out.below hB3.out) (ok_pw ci) (ok_pw cj)).mono ?_
  rintro e w4 ⟨rfl, hb4⟩
  rw [limits_in_mul cs, limits_in_err cs]
  have hB4 := Lib.hid (hB3.out.trans (hb4.mono hB3.out.size))
  clear hb4 hB3
  go_wp2_with fail
  refine (zeros_any (i + j) w4 (by omega)).mono ?_
  rintro e w5 ⟨rfl, hb5⟩
  have hB5 := Lib.hid (hB4.out.trans (hb5.mono hB4.out.size))
  clear hb5 hB4
  go_wp2_with fail
  refine (subOne i w5 (hE.out.below hB5.out) ci).mono ?_
  rintro e w6 ⟨rfl, hb6⟩
  have hB6 := Lib.hid (hB5.out.trans (hb6.mono hB5.out.size))
  clear hb6 hB5
  go_wp2_with fail
  refine (addOne i w6 (hE.out.below hB6.out) ci).mono ?_
  rintro e w7 ⟨rfl, hb7⟩
  have hB7 := Lib.hid (hB6.out.trans (hb7.mono hB6.out.size))
  clear hb7 hB6
  have hm := limits_len i
  have hs := limits_size i
  go_wp2
  go_ret
  exact ⟨rfl, hB7.out⟩

theorem limits_any (p q : Nat) (hp : p < 65536) (hq : q < 65536) (w : World) (hE : Env w) :
    Calls Tryd.prog 9 #[.int .u16 (p : Int), .int .u16 (q : Int)] w fun e w' => e = .returned (.bool true) ∧ Below w.heap.size w w' := by
  by_cases ci : p % 321 < 300
  · by_cases cj : q % 321 < 300
    · by_cases cs : p % 321 + q % 321 < 300
      · exact limits_in p q _ _ hp hq rfl rfl cs w hE
      · exact limits_over p q _ _ hp hq rfl rfl ci cj (by omega) w hE
    · exact limits_big2 p q _ _ hp hq rfl rfl ci (by omega) w hE
  · exact limits_big p q _ _ hp hq rfl rfl (by omega) w hE

theorem limits_int (p q : Int) (hp0 : 0 ≤ p) (hp : p < 65536) (hq0 : 0 ≤ q) (hq : q < 65536) (w : World) (hE : Env w) :
    Calls Tryd.prog 9 #[.int .u16 p, .int .u16 q] w fun e w' => e = .returned (.bool true) ∧ Below w.heap.size w w' := by
  obtain ⟨a, rfl⟩ := Int.eq_ofNat_of_zero_le hp0
  obtain ⟨b, rfl⟩ := Int.eq_ofNat_of_zero_le hq0
  exact limits_any a b (by omega) (by omega) w hE


end Nt
end Go.Proofs.YtdojfnjgipeogaaDoor

