/- NaturalSmall: the walk. -/
import Derived.Test.YtdojfnjgipeogaaDoorNatO2
import Derived.Test.YtdojfnjgipeogaaDoorNatGcd
namespace Go.Proofs.YtdojfnjgipeogaaDoor
open Go.RowKit Go.Shelf
namespace Nt

theorem small_facts {n m : Nat} (hn : n < 2147483648) (hm : m < 2147483648) : n * m ≤ 4611686018427387904 ∧ sumO (some n) (some m) = some (n + m) ∧ sumE (some n) (some m) = 0 ∧ mulO (some n) (some m) = some (n * m) ∧ mulE (some n) (some m) = 0 := by
  have h : n * m ≤ 2147483648 * 2147483648 := Nat.mul_le_mul (by omega) (by omega)
  have hk := maxInt_lt
  have h1 : n * m < Lim := by omega
  have h2 : n + m < Lim := by omega
  exact ⟨h, by simp [sumO, apO, limO, h2], by simp [sumE, apE, h2], by simp [mulO, apO, limO, h1], by simp [mulE, apE, h1]⟩
theorem small_wrap {n m : Nat} (hn : n < 2147483648) (hm : m < 2147483648) : wrap64 ((n : Int) * (m : Int)) = (n : Int) * (m : Int) := by
  have h := (small_facts hn hm).1
  have e : (n : Int) * (m : Int) = ((n * m : Nat) : Int) := by simp
  rw [e]
  exact IntWalk.wrap64_in _ ⟨by omega, by omega⟩
theorem small_gcd (n m : Nat) (hn : n < 2147483648) (hm : m < 2147483648) : gcdO (some n) (some m) = some (Nat.gcd n m) ∧ gcdE (some n) (some m) = 0 := by
  have hk := maxInt_lt
  have h : Nat.gcd n m < Lim := gcd_ltL (by omega) (by omega)
  exact ⟨by simp [gcdO, apO, limO, h], by simp [gcdE, apE, h]⟩
def SmallRel (G : Nat) (w : World) (g : Nat) (v u : Value) (wr : World) : Prop :=
  ∃ k : Nat, v = .int .i64 (k : Int) ∧ u = .int .i64 (g : Int) ∧ Nat.gcd k g = G ∧ k < 2147483648 ∧ g < 2147483648 ∧ Below w.heap.size w wr
theorem small_div (n m : Nat) (hn : n < 2147483648) : wrap64 ((n : Int) / (m : Int)) = (n : Int) / (m : Int) := by
  have e : (n : Int) / (m : Int) = ((n / m : Nat) : Int) := by simp
  have h := Nat.div_le_self n m
  rw [e]
  generalize n / m = k at h
  exact IntWalk.wrap64_in _ ⟨by omega, by omega⟩
theorem small_quo (n m : Nat) (h : m ≠ 0) : quoO (some n) (some m) = some (n / m) ∧ remO (some n) (some m) = some (n % m) ∧ quoX (some n) (some m) = 0 := ⟨if_neg h, if_neg h, if_neg h⟩

set_option maxRecDepth 100000 in
set_option maxHeartbeats 4000000 in
theorem small_walk (p q : Nat) (hp : p < 4294967296) (hq : q < 4294967296) (w : World) (hE : Env w) :
    Calls Tryd.prog 10 #[.int .u32 (p : Int), .int .u32 (q : Int)] w fun e w' => e = .returned (.bool true) ∧ Below w.heap.size w w' := by
  replace hE := Lib.hid hE
  have e1 : (p : Int) / 2 = ((p / 2 : Nat) : Int) := by omega
  have e2 : (q : Int) / 2 = ((q / 2 : Nat) : Int) := by omega
  have hn : p / 2 < 2147483648 := by omega
  have hm : q / 2 < 2147483648 := by omega
  replace e1 := Lib.hid e1
  replace e2 := Lib.hid e2
  clear hp hq
  go_enter Tryd.func10, Tryd.ntmps10
  go_wp2_with fail
  refine (head_any w hE.out).mono ?_
  rintro e w0 ⟨rfl, hb0⟩
  have hB0 := Lib.hid hb0
  clear hb0
  go_wp2_with fail
  rw [e1.out, e2.out]
  clear e1 e2
  generalize p / 2 = n at *
  generalize q / 2 = m at *
  have HF := Lib.hid (small_facts hn hm)
  have fm : wrap64 ((n : Int) * (m : Int)) = (n : Int) * (m : Int) := small_wrap hn hm
  refine (ofT n w0 (hE.out.below hB0.out) (by omega)).mono ?_
  rintro e w1 ⟨rfl, hb1⟩
  have hB1 := Lib.hid (hB0.out.trans (hb1.mono hB0.out.size))
  clear hb1 hB0
  go_wp2_with fail
  refine (ofT m w1 (hE.out.below hB1.out) (by omega)).mono ?_
  rintro e w2 ⟨rfl, hb2⟩
  have hB2 := Lib.hid (hB1.out.trans (hb2.mono hB1.out.size))
  clear hb2 hB1
  go_wp2_with fail
  refine (addT (some n) (some m) w2 (hE.out.below hB2.out) (ok_int (by omega)) (ok_int (by omega))).mono ?_
  rintro e w3 ⟨rfl, hb3⟩
  rw [HF.out.2.1, HF.out.2.2.1]
  have hB3 := Lib.hid (hB2.out.trans (hb3.mono hB2.out.size))
  clear hb3 hB2
  go_wp2_with fail
  refine (mulT (some n) (some m) w3 (hE.out.below hB3.out) (ok_int (by omega)) (ok_int (by omega))).mono ?_
  rintro e w4 ⟨rfl, hb4⟩
  rw [HF.out.2.2.2.1, HF.out.2.2.2.2]
  have hB4 := Lib.hid (hB3.out.trans (hb4.mono hB3.out.size))
  clear hb4 hB3
  go_wp2_with fail
  refine (cmpT (some n) (some m) w4 (hE.out.below hB4.out) (ok_int (by omega)) (ok_int (by omega))).mono ?_
  rintro e w5 ⟨rfl, hb5⟩
  have hB5 := Lib.hid (hB4.out.trans (hb5.mono hB4.out.size))
  clear hb5 hB4
  rcases cmpO_cases n m with ⟨hl, hc, _, hx⟩ | ⟨hl, hc, _, hx⟩ | ⟨hl, hc, _, hx⟩
  · rw [hc]
    have HX := Lib.hid hx
    clear hc hx
    go_wp2_with fail
    refine (ofI _ (n + m) w5 (hE.out.below hB5.out) (Int.natCast_add _ _).symm (by omega)).mono ?_
    rintro e w6 ⟨rfl, hb6⟩
    have hB6 := Lib.hid (hB5.out.trans (hb6.mono hB5.out.size))
    clear hb6 hB5
    go_wp2_with fail
    refine (ofI _ (n * m) w6 (hE.out.below hB6.out) (Int.natCast_mul _ _).symm (by have := HF.out.1; omega)).mono ?_
    rintro e w7 ⟨rfl, hb7⟩
    have hB7 := Lib.hid (hB6.out.trans (hb7.mono hB6.out.size))
    clear hb7 hB6
    go_wp2_with fail
    refine (subT (some n) (some m) w7 (hE.out.below hB7.out) (ok_int (by omega)) (ok_int (by omega))).mono ?_
    rintro e w8 ⟨rfl, hb8⟩
    rw [HX.out]
    have hB8 := Lib.hid (hB7.out.trans (hb8.mono hB7.out.size))
    clear hb8 hB7
    have h0 : m ≠ 0 := by omega
    have fq : wrap64 ((n : Int) / (m : Int)) = (n : Int) / (m : Int) := small_div n m hn
    have HQ := Lib.hid (small_quo n m h0)
    go_wp2_with fail
    refine (divT (some n) (some m) w8 (hE.out.below hB8.out) (ok_int (by omega)) (ok_int (by omega))).mono ?_
    rintro e w9 ⟨rfl, hb9⟩
    rw [HQ.out.1, HQ.out.2.1, HQ.out.2.2]
    have hB9 := Lib.hid (hB8.out.trans (hb9.mono hB8.out.size))
    clear hb9 hB8
    have HG := Lib.hid (small_gcd n m hn (by omega))
    go_wp2_with fail
    go_loopg [19, 20] m (fun g v u wr => SmallRel (Nat.gcd n m) w g v u wr)
    case atStart => exact ⟨n, rfl, rfl, rfl, by omega, by omega, hB9.out⟩
    case round =>
      obtain ⟨k, rfl, rfl, h3, h4, h5, h6⟩ := hrel
      clear hB9
      obtain ⟨w10, hw⟩ : ∃ x, x = wr := ⟨_, rfl⟩
      subst hw
      have hB10 := Lib.hid h6
      clear h6
      by_cases hg : gk = 0
      · subst hg
        rw [Nat.gcd_zero_right] at h3
        subst h3
        go_wp2_with fail
        refine (gcdT (some n) (some m) w10 (hE.out.below hB10.out) (ok_int (by omega)) (ok_int (by omega))).mono ?_
        rintro e w11 ⟨rfl, hb11⟩
        rw [HG.out.1, HG.out.2]
        have hB11 := Lib.hid (hB10.out.trans (hb11.mono hB10.out.size))
        clear hb11 hB10
        go_wp2_with fail
        refine (ofI _ (n / m) w11 (hE.out.below hB11.out) (by first | rfl | simp | omega) (by have := Nat.div_le_self n m; omega)).mono ?_
        rintro e w12 ⟨rfl, hb12⟩
        have hB12 := Lib.hid (hB11.out.trans (hb12.mono hB11.out.size))
        clear hb12 hB11
        go_wp2_with fail
        refine (ofI _ (n % m) w12 (hE.out.below hB12.out) (by first | rfl | simp | omega) (by have := Nat.mod_le n m; omega)).mono ?_
        rintro e w13 ⟨rfl, hb13⟩
        have hB13 := Lib.hid (hB12.out.trans (hb13.mono hB12.out.size))
        clear hb13 hB12
        go_wp2_with fail
        refine (ofI _ (Nat.gcd n m) w13 (hE.out.below hB13.out) rfl (by omega)).mono ?_
        rintro e w14 ⟨rfl, hb14⟩
        have hB14 := Lib.hid (hB13.out.trans (hb14.mono hB13.out.size))
        clear hb14 hB13
        go_wp2
        go_ret
        exact ⟨rfl, hB14.out⟩
      · have hz : ¬ (gk : Int) = 0 := by omega
        have hz2 : (0 : Int) < gk := by omega
        replace h3 := Lib.hid h3
        go_wp2_with fail
        go_region_with fail
        all_goals go_wp2
        all_goals go_roundg (k % gk)
        all_goals first
          | exact Nat.mod_lt _ (by omega)
          | (refine ⟨gk, rfl, (by first | rfl | simp | (congr 1; omega)), ?_, h5, (by have := Nat.mod_lt k (show gk > 0 by omega); omega), hB10.out.drew⟩; rw [← h3.out, Nat.gcd_comm gk, ← Nat.gcd_rec, Nat.gcd_comm])
  · have hl1 : n ≤ m := by omega
    have hl2 : m ≤ n := by omega
    clear hl
    rw [hc]
    have HX := Lib.hid hx
    clear hc hx
    go_wp2_with fail
    refine (ofI _ (n + m) w5 (hE.out.below hB5.out) (Int.natCast_add _ _).symm (by omega)).mono ?_
    rintro e w6 ⟨rfl, hb6⟩
    have hB6 := Lib.hid (hB5.out.trans (hb6.mono hB5.out.size))
    clear hb6 hB5
    go_wp2_with fail
    refine (ofI _ (n * m) w6 (hE.out.below hB6.out) (Int.natCast_mul _ _).symm (by have := HF.out.1; omega)).mono ?_
    rintro e w7 ⟨rfl, hb7⟩
    have hB7 := Lib.hid (hB6.out.trans (hb7.mono hB6.out.size))
    clear hb7 hB6
    have HS : Hid (subO (some n) (some m) = some (n - m)) := if_pos (by omega)
    go_wp2_with fail
    refine (subT (some n) (some m) w7 (hE.out.below hB7.out) (ok_int (by omega)) (ok_int (by omega))).mono ?_
    rintro e w8 ⟨rfl, hb8⟩
    rw [HX.out, HS.out]
    have hB8 := Lib.hid (hB7.out.trans (hb8.mono hB7.out.size))
    clear hb8 hB7
    go_wp2_with fail
    refine (ofI _ (n - m) w8 (hE.out.below hB8.out) (by omega) (by omega)).mono ?_
    rintro e w9 ⟨rfl, hb9⟩
    have hB9 := Lib.hid (hB8.out.trans (hb9.mono hB8.out.size))
    clear hb9 hB8
    by_cases h0 : m = 0
    · have f0 : ((m : Int) == 0) = true := by simp [h0]
      clear h0
      go_wp2
      go_ret
      exact ⟨rfl, hB9.out⟩
    · have f0 : ((m : Int) == 0) = false := by simp [h0]
      have fq : wrap64 ((n : Int) / (m : Int)) = (n : Int) / (m : Int) := small_div n m hn
      have HQ := Lib.hid (small_quo n m h0)
      go_wp2_with fail
      refine (divT (some n) (some m) w9 (hE.out.below hB9.out) (ok_int (by omega)) (ok_int (by omega))).mono ?_
      rintro e w10 ⟨rfl, hb10⟩
      rw [HQ.out.1, HQ.out.2.1, HQ.out.2.2]
      have hB10 := Lib.hid (hB9.out.trans (hb10.mono hB9.out.size))
      clear hb10 hB9
      have HG := Lib.hid (small_gcd n m hn (by omega))
      go_wp2_with fail
      go_loopg [19, 20] m (fun g v u wr => SmallRel (Nat.gcd n m) w g v u wr)
      case atStart => exact ⟨n, rfl, rfl, rfl, by omega, by omega, hB10.out⟩
      case round =>
        obtain ⟨k, rfl, rfl, h3, h4, h5, h6⟩ := hrel
        clear hB10
        obtain ⟨w11, hw⟩ : ∃ x, x = wr := ⟨_, rfl⟩
        subst hw
        have hB11 := Lib.hid h6
        clear h6
        by_cases hg : gk = 0
        · subst hg
          rw [Nat.gcd_zero_right] at h3
          subst h3
          go_wp2_with fail
          refine (gcdT (some n) (some m) w11 (hE.out.below hB11.out) (ok_int (by omega)) (ok_int (by omega))).mono ?_
          rintro e w12 ⟨rfl, hb12⟩
          rw [HG.out.1, HG.out.2]
          have hB12 := Lib.hid (hB11.out.trans (hb12.mono hB11.out.size))
          clear hb12 hB11
          go_wp2_with fail
          refine (ofI _ (n / m) w12 (hE.out.below hB12.out) (by first | rfl | simp | omega) (by have := Nat.div_le_self n m; omega)).mono ?_
          rintro e w13 ⟨rfl, hb13⟩
          have hB13 := Lib.hid (hB12.out.trans (hb13.mono hB12.out.size))
          clear hb13 hB12
          go_wp2_with fail
          refine (ofI _ (n % m) w13 (hE.out.below hB13.out) (by first | rfl | simp | omega) (by have := Nat.mod_le n m; omega)).mono ?_
          rintro e w14 ⟨rfl, hb14⟩
          have hB14 := Lib.hid (hB13.out.trans (hb14.mono hB13.out.size))
          clear hb14 hB13
          go_wp2_with fail
          refine (ofI _ (Nat.gcd n m) w14 (hE.out.below hB14.out) rfl (by omega)).mono ?_
          rintro e w15 ⟨rfl, hb15⟩
          have hB15 := Lib.hid (hB14.out.trans (hb15.mono hB14.out.size))
          clear hb15 hB14
          go_wp2
          go_ret
          exact ⟨rfl, hB15.out⟩
        · have hz : ¬ (gk : Int) = 0 := by omega
          have hz2 : (0 : Int) < gk := by omega
          replace h3 := Lib.hid h3
          go_wp2_with fail
          go_region_with fail
          all_goals go_wp2
          all_goals go_roundg (k % gk)
          all_goals first
            | exact Nat.mod_lt _ (by omega)
            | (refine ⟨gk, rfl, (by first | rfl | simp | (congr 1; omega)), ?_, h5, (by have := Nat.mod_lt k (show gk > 0 by omega); omega), hB11.out.drew⟩; rw [← h3.out, Nat.gcd_comm gk, ← Nat.gcd_rec, Nat.gcd_comm])
  · rw [hc]
    have HX := Lib.hid hx
    clear hc hx
    go_wp2_with fail
    refine (ofI _ (n + m) w5 (hE.out.below hB5.out) (Int.natCast_add _ _).symm (by omega)).mono ?_
    rintro e w6 ⟨rfl, hb6⟩
    have hB6 := Lib.hid (hB5.out.trans (hb6.mono hB5.out.size))
    clear hb6 hB5
    go_wp2_with fail
    refine (ofI _ (n * m) w6 (hE.out.below hB6.out) (Int.natCast_mul _ _).symm (by have := HF.out.1; omega)).mono ?_
    rintro e w7 ⟨rfl, hb7⟩
    have hB7 := Lib.hid (hB6.out.trans (hb7.mono hB6.out.size))
    clear hb7 hB6
    have HS : Hid (subO (some n) (some m) = some (n - m)) := if_pos (by omega)
    go_wp2_with fail
    refine (subT (some n) (some m) w7 (hE.out.below hB7.out) (ok_int (by omega)) (ok_int (by omega))).mono ?_
    rintro e w8 ⟨rfl, hb8⟩
    rw [HX.out, HS.out]
    have hB8 := Lib.hid (hB7.out.trans (hb8.mono hB7.out.size))
    clear hb8 hB7
    go_wp2_with fail
    refine (ofI _ (n - m) w8 (hE.out.below hB8.out) (by omega) (by omega)).mono ?_
    rintro e w9 ⟨rfl, hb9⟩
    have hB9 := Lib.hid (hB8.out.trans (hb9.mono hB8.out.size))
    clear hb9 hB8
    by_cases h0 : m = 0
    · have f0 : ((m : Int) == 0) = true := by simp [h0]
      clear h0
      go_wp2
      go_ret
      exact ⟨rfl, hB9.out⟩
    · have f0 : ((m : Int) == 0) = false := by simp [h0]
      have fq : wrap64 ((n : Int) / (m : Int)) = (n : Int) / (m : Int) := small_div n m hn
      have HQ := Lib.hid (small_quo n m h0)
      go_wp2_with fail
      refine (divT (some n) (some m) w9 (hE.out.below hB9.out) (ok_int (by omega)) (ok_int (by omega))).mono ?_
      rintro e w10 ⟨rfl, hb10⟩
      rw [HQ.out.1, HQ.out.2.1, HQ.out.2.2]
      have hB10 := Lib.hid (hB9.out.trans (hb10.mono hB9.out.size))
      clear hb10 hB9
      have HG := Lib.hid (small_gcd n m hn (by omega))
      go_wp2_with fail
      go_loopg [19, 20] m (fun g v u wr => SmallRel (Nat.gcd n m) w g v u wr)
      case atStart => exact ⟨n, rfl, rfl, rfl, by omega, by omega, hB10.out⟩
      case round =>
        obtain ⟨k, rfl, rfl, h3, h4, h5, h6⟩ := hrel
        clear hB10
        obtain ⟨w11, hw⟩ : ∃ x, x = wr := ⟨_, rfl⟩
        subst hw
        have hB11 := Lib.hid h6
        clear h6
        by_cases hg : gk = 0
        · subst hg
          rw [Nat.gcd_zero_right] at h3
          subst h3
          go_wp2_with fail
          refine (gcdT (some n) (some m) w11 (hE.out.below hB11.out) (ok_int (by omega)) (ok_int (by omega))).mono ?_
          rintro e w12 ⟨rfl, hb12⟩
          rw [HG.out.1, HG.out.2]
          have hB12 := Lib.hid (hB11.out.trans (hb12.mono hB11.out.size))
          clear hb12 hB11
          go_wp2_with fail
          refine (ofI _ (n / m) w12 (hE.out.below hB12.out) (by first | rfl | simp | omega) (by have := Nat.div_le_self n m; omega)).mono ?_
          rintro e w13 ⟨rfl, hb13⟩
          have hB13 := Lib.hid (hB12.out.trans (hb13.mono hB12.out.size))
          clear hb13 hB12
          go_wp2_with fail
          refine (ofI _ (n % m) w13 (hE.out.below hB13.out) (by first | rfl | simp | omega) (by have := Nat.mod_le n m; omega)).mono ?_
          rintro e w14 ⟨rfl, hb14⟩
          have hB14 := Lib.hid (hB13.out.trans (hb14.mono hB13.out.size))
          clear hb14 hB13
          go_wp2_with fail
          refine (ofI _ (Nat.gcd n m) w14 (hE.out.below hB14.out) rfl (by omega)).mono ?_
          rintro e w15 ⟨rfl, hb15⟩
          have hB15 := Lib.hid (hB14.out.trans (hb15.mono hB14.out.size))
          clear hb15 hB14
          go_wp2
          go_ret
          exact ⟨rfl, hB15.out⟩
        · have hz : ¬ (gk : Int) = 0 := by omega
          have hz2 : (0 : Int) < gk := by omega
          replace h3 := Lib.hid h3
          go_wp2_with fail
          go_region_with fail
          all_goals go_wp2
          all_goals go_roundg (k % gk)
          all_goals first
            | exact Nat.mod_lt _ (by omega)
            | (refine ⟨gk, rfl, (by first | rfl | simp | (congr 1; omega)), ?_, h5, (by have := Nat.mod_lt k (show gk > 0 by omega); omega), hB11.out.drew⟩; rw [← h3.out, Nat.gcd_comm gk, ← Nat.gcd_rec, Nat.gcd_comm])

theorem small_int (p q : Int) (hp0 : 0 ≤ p) (hp : p < 4294967296) (hq0 : 0 ≤ q) (hq : q < 4294967296) (w : World) (hE : Env w) :
    Calls Tryd.prog 10 #[.int .u32 p, .int .u32 q] w fun e w' => e = .returned (.bool true) ∧ Below w.heap.size w w' := by
  obtain ⟨a, rfl⟩ := Int.eq_ofNat_of_zero_le hp0
  obtain ⟨b, rfl⟩ := Int.eq_ofNat_of_zero_le hq0
  exact small_walk a b (by omega) (by omega) w hE


end Nt
end Go.Proofs.YtdojfnjgipeogaaDoor

