/- The reference's Plus and Minus. -/
import Derived.Test.YtjahnkeafaebdaaGreatDoorRefRows
namespace Go.Proofs.YtjahnkeafaebdaaGreatDoor
open Go.RowKit Go.Shelf
namespace Nt

theorem dv_lt {ds : List Nat} (h : ∀ d ∈ ds, d < 10) : dv ds < 10 ^ ds.length := by
  rw [← dval_dbytes h]
  have := dval_lt (dbytes_dig h)
  rwa [dbytes_len] at this
theorem lt_pow_size (n : Nat) : n < 10 ^ (num n).size := by
  rw [num_size]
  exact (decDigits_len_iff n _ (List.length_pos_iff.2 (decDigits_ne n))).1 (Nat.le_refl _)
theorem size_pos (n : Nat) : 0 < (num n).size := by rw [num_size]; exact List.length_pos_iff.2 (decDigits_ne n)
theorem size_mono {a b : Nat} (h : a ≤ b) : (num a).size ≤ (num b).size := by
  have h1 := lt_pow_size b
  have h2 := size_pos b
  rw [num_size a]
  exact decDigits_len (Nat.lt_of_le_of_lt h h1) h2
theorem mod_size {a k : Nat} (h : (num a).size ≤ k) : a % 10 ^ k = a := mod_all (by rw [num_size] at h; exact h)
theorem snoc_all {ds : List Nat} {d : Nat} (h : ∀ x ∈ ds, x < 10) (hd : d < 10) : ∀ x ∈ ds ++ [d], x < 10 := by
  intro x hx
  rcases List.mem_append.1 hx with h1 | h1
  · exact h x h1
  · simp at h1; omega

def PlusRel (w : World) (a b : Nat) (k c : Nat) (v : Value) (wr : World) : Prop :=
  ∃ ds, ds.length = k ∧ (∀ d ∈ ds, d < 10) ∧ OwnI w.heap.size wr v ds ∧ dv ds + 10 ^ k * c = a % 10 ^ k + b % 10 ^ k ∧ Below w.heap.size w wr

theorem plus_end {D a b M c : Nat} (h : D + 10 ^ (M + 1) * c = a % 10 ^ (M + 1) + b % 10 ^ (M + 1)) (ha : a < 10 ^ M) (hb : b < 10 ^ M) : D = a + b := by
  have e : 10 ^ (M + 1) = 10 ^ M * 10 := Nat.pow_succ ..
  rw [Nat.mod_eq_of_lt (by omega), Nat.mod_eq_of_lt (by omega)] at h
  rcases Nat.eq_zero_or_pos c with h0 | h0
  · subst h0; omega
  · have : 10 ^ (M + 1) * 1 ≤ 10 ^ (M + 1) * c := Nat.mul_le_mul_left _ h0
    omega

set_option maxRecDepth 100000 in
set_option maxHeartbeats 1000000 in
theorem Plus_big (a b : Nat) (w : World) (ha : (num a).size ≤ 10000) (hb : (num b).size ≤ 10000) (hbig : ¬ ((num a).size ≤ 18 ∧ (num b).size ≤ 18)) :
    Calls Tryz.prog 82 #[.string (num a), .string (num b)] w fun e w' => e = .returned (.string (num (a + b))) ∧ Below w.heap.size w w' := by
  obtain ⟨i0, hi, hz0, hz1, hz2⟩ := info_parts infoI
  obtain ⟨M, hM⟩ : ∃ M, M = max (num a).size (num b).size := ⟨_, rfl⟩
  have hmx : max ((num a).size : Int) ((num b).size : Int) = (M : Int) := by omega
  have hM2 : M ≤ 10000 := by omega
  have HA : Hid (a < 10 ^ M ∧ b < 10 ^ M) := ⟨Nat.lt_of_lt_of_le (lt_pow_size a) (Nat.pow_le_pow_right (by omega) (by omega)), Nat.lt_of_lt_of_le (lt_pow_size b) (Nat.pow_le_pow_right (by omega) (by omega))⟩
  have hcs : 18 < (num a).size ∨ ((num a).size ≤ 18 ∧ 18 < (num b).size) := by omega
  clear hM hbig
  rcases hcs with h18 | ⟨h18, h19⟩
  all_goals
    go_enter Tryz.func82, Tryz.ntmps82
    go_wp2
    go_loopw [5, 6, 7] (fun v c i wr => ∃ k cc : Nat, k ≤ M + 1 ∧ i = .int .i64 (k : Int) ∧ c = .int .i64 (cc : Int) ∧ cc ≤ 1 ∧ PlusRel w a b k cc v wr) (fun _ _ i _ => M + 1 - (intOf i).toNat)
    case atStart => exact ⟨0, 0, by omega, rfl, rfl, by omega, [], rfl, fun _ h => absurd h (by simp), World.ownsRow_nil _ _ _ _, by simp [dv, Nat.mod_one], Below.refl _ _⟩
    case round =>
      obtain ⟨k, cc, hk, rfl, rfl, hcc, ds, z1, z2, z3, z4, z5⟩ := hrel
      have hsz := z5.size
      by_cases hlt : k < M + 1
      · obtain ⟨x, hx⟩ : ∃ x, x = a / 10 ^ k % 10 := ⟨_, rfl⟩
        obtain ⟨y, hy⟩ : ∃ y, y = b / 10 ^ k % 10 := ⟨_, rfl⟩
        have cx := digit_any a k wr (by omega) (by omega)
        have cy := digit_any b k wr (by omega) (by omega)
        have hr := plus_round z4
        rw [← hx] at cx hr
        rw [← hy] at cy hr
        have hx9 : x < 10 := by omega
        have hy9 : y < 10 := by omega
        have e1 : (((x + y + cc) % 10 : Nat) : Int) = ((x : Int) + (y : Int) + (cc : Int)) % 10 := by omega
        have HS : Hid (∀ w2 v2, w2.ownsRow w.heap.size 3 1 v2 (ds.length + 1) (ivals ds ++ [Value.int .i64 (((x : Int) + (y : Int) + (cc : Int)) % 10)]) → Below w.heap.size w w2 → PlusRel w a b (k + 1) ((x + y + cc) / 10) v2 w2) := fun w2 v2 ho hb => by
          refine ⟨ds ++ [(x + y + cc) % 10], by simp [z1], snoc_all z2 (by omega), ?_, ?_, hb⟩
          · unfold OwnI
            rw [← ivals_snoc, e1, List.length_append]
            exact ho
          · rw [dv_snoc, z1]
            exact hr
        have HO : Hid (wr.ownsRow w.heap.size 3 1 u5 ds.length (ivals ds)) := z3
        have HB := Lib.hid z5
        have HL : Hid (ds.length = k) := z1
        clear z1 z2 z3 z4 z5 hx hy hr e1
        go_wp2_with fail
        refine cx.mono ?_
        rintro e w1 ⟨rfl, rfl⟩
        go_wp2_with fail
        refine cy.mono ?_
        rintro e w1 ⟨rfl, rfl⟩
        clear cx cy
        go_wp2_with (at_builtin; refine wpList_append_own _ rfl _ _ 118 rfl w.heap.size 3 i0 (.int .i64 0) 1 8 Tryz.underlying118 hi hz0 hz1 hz2 rfl (by decide) u5 ds.length (ivals ds) rfl (HO.out.alloc _) ⟨wr.heap.size, 0, none⟩ 1 1 [.int .i64 (((x : Int) + (y : Int) + (cc : Int)) % 10)] rfl rfl (one_new _ _ _) (one_cell _ _) (by have := HL.out; unfold maxLen; omega) (by have := HL.out; omega) (by simp; omega) ?_; intro v2 w2 hown2 hgr2 _)
        refine ⟨⟨k + 1, (x + y + cc) / 10, by omega, by go_num, by go_num, by omega, HS.out w2 v2 hown2 ((HB.out.alloc (by omega) _).grown hgr2 (by simp; omega) (fun b e => (HO.out.lt b e).1))⟩, by simp only [intOf]; omega⟩
      · obtain rfl : k = M + 1 := by omega
        have hv := plus_end z4 HA.out.1 HA.out.2
        have ct := reftext_any wr u5 ds (z3.at (by intro h; rw [h] at z1; simp at z1)) (by omega) (by omega) z2
        rw [hv] at ct
        replace z5 := Lib.hid z5
        clear z1 z2 z3 z4 hv
        go_wp2_with fail
        refine ct.mono ?_
        rintro e w1 ⟨rfl, hb⟩
        have hB := Lib.hid (z5.out.trans (hb.mono hsz))
        clear hb ct
        go_wp2
        go_ret
        exact ⟨rfl, hB.out⟩

theorem pow18 {a : Nat} (h : (num a).size ≤ 18) : a < 1000000000000000000 := by
  have h1 := lt_pow_size a
  have h2 : 10 ^ (num a).size ≤ 10 ^ 18 := Nat.pow_le_pow_right (by omega) h
  omega
theorem pow9 {a : Nat} (h : (num a).size ≤ 9) : a < 1000000000 := by
  have h1 := lt_pow_size a
  have h2 : 10 ^ (num a).size ≤ 10 ^ 9 := Nat.pow_le_pow_right (by omega) h
  omega

theorem Plus_small (a b : Nat) (w : World) (ha : (num a).size ≤ 18) (hb : (num b).size ≤ 18) :
    Calls Tryz.prog 82 #[.string (num a), .string (num b)] w fun e w' => e = .returned (.string (num (a + b))) ∧ w = w' := by
  have h1 := pow18 ha
  have h2 := pow18 hb
  have c1 := value_num a w ha
  have c2 := value_num b w hb
  have c3 := Decimal_any (a + b) w (by omega)
  rw [Int.natCast_add] at c3
  go_enter Tryz.func82, Tryz.ntmps82
  go_wp2_with fail
  refine c1.mono ?_
  rintro e w1 ⟨rfl, rfl⟩
  go_wp2_with fail
  refine c2.mono ?_
  rintro e w1 ⟨rfl, rfl⟩
  go_wp2_with fail
  refine c3.mono ?_
  rintro e w1 ⟨rfl, rfl⟩
  go_wp2
  go_ret
  exact ⟨rfl, rfl⟩

theorem Plus_any (a b : Nat) (w : World) (ha : (num a).size ≤ 10000) (hb : (num b).size ≤ 10000) :
    Calls Tryz.prog 82 #[.string (num a), .string (num b)] w fun e w' => e = .returned (.string (num (a + b))) ∧ Below w.heap.size w w' := by
  by_cases h : (num a).size ≤ 18 ∧ (num b).size ≤ 18
  · refine (Plus_small a b w h.1 h.2).mono ?_
    rintro e w' ⟨rfl, rfl⟩
    exact ⟨rfl, Below.refl _ _⟩
  · exact Plus_big a b w ha hb h

def MinusRel (w : World) (a b : Nat) (k c : Nat) (v : Value) (wr : World) : Prop :=
  ∃ ds, ds.length = k ∧ (∀ d ∈ ds, d < 10) ∧ OwnI w.heap.size wr v ds ∧ dv ds + b % 10 ^ k = a % 10 ^ k + 10 ^ k * c ∧ Below w.heap.size w wr

theorem minus_end {D a b k c : Nat} (h : D + b % 10 ^ k = a % 10 ^ k + 10 ^ k * c) (ha : a < 10 ^ k) (hb : b ≤ a) (hD : D < 10 ^ k) : D = a - b := by
  rw [Nat.mod_eq_of_lt (by omega), Nat.mod_eq_of_lt ha] at h
  rcases Nat.eq_zero_or_pos c with h0 | h0
  · subst h0; omega
  · have : 10 ^ k * 1 ≤ 10 ^ k * c := Nat.mul_le_mul_left _ h0
    omega

set_option maxRecDepth 100000 in
set_option maxHeartbeats 1000000 in
theorem Minus_any (a b : Nat) (w : World) (ha : (num a).size ≤ 10000) (hle : b ≤ a) :
    Calls Tryz.prog 84 #[.string (num a), .string (num b)] w fun e w' => e = .returned (.string (num (a - b))) ∧ Below w.heap.size w w' := by
  obtain ⟨i0, hi, hz0, hz1, hz2⟩ := info_parts infoI
  have hb := size_mono hle
  have ha0 := size_pos a
  have HA := Lib.hid (lt_pow_size a)
  replace hle := Lib.hid hle
  go_enter Tryz.func84, Tryz.ntmps84
  go_wp2
  go_loopw [5, 6, 7] (fun v c i wr => ∃ k cc : Nat, k ≤ (num a).size ∧ i = .int .i64 (k : Int) ∧ c = .int .i64 (cc : Int) ∧ cc ≤ 1 ∧ MinusRel w a b k cc v wr) (fun _ _ i _ => (num a).size - (intOf i).toNat)
  case atStart => exact ⟨0, 0, by omega, rfl, rfl, by omega, [], rfl, fun _ h => absurd h (by simp), World.ownsRow_nil _ _ _ _, by simp [dv, Nat.mod_one], Below.refl _ _⟩
  case round =>
    obtain ⟨k, cc, hk, rfl, rfl, hcc, ds, z1, z2, z3, z4, z5⟩ := hrel
    have hsz := z5.size
    by_cases hlt : k < (num a).size
    · obtain ⟨x, hx⟩ : ∃ x, x = a / 10 ^ k % 10 := ⟨_, rfl⟩
      obtain ⟨y, hy⟩ : ∃ y, y = b / 10 ^ k % 10 := ⟨_, rfl⟩
      have cx := digit_any a k wr (by omega) (by omega)
      have cy := digit_any b k wr (by omega) (by omega)
      rw [← hx] at cx
      rw [← hy] at cy
      have hx9 : x < 10 := by omega
      have hy9 : y < 10 := by omega
      have HS : Hid (∀ (z c' : Nat) (d : Int) w2 v2, z < 10 → c' ≤ 1 → z + y + cc = x + 10 * c' → d = (z : Int) → w2.ownsRow w.heap.size 3 1 v2 (ds.length + 1) (ivals ds ++ [Value.int .i64 d]) → Below w.heap.size w w2 → MinusRel w a b (k + 1) c' v2 w2) := fun z c' d w2 v2 hz hc he hdz ho hb => by
        subst hdz
        refine ⟨ds ++ [z], by simp [z1], snoc_all z2 hz, ?_, ?_, hb⟩
        · unfold OwnI
          rw [← ivals_snoc, List.length_append]
          exact ho
        · rw [dv_snoc, z1]
          exact minus_round z4 (by rw [← hx, ← hy]; exact he)
      have HO : Hid (wr.ownsRow w.heap.size 3 1 u5 ds.length (ivals ds)) := z3
      have HB := Lib.hid z5
      have HL : Hid (ds.length = k) := z1
      clear z1 z2 z3 z4 z5 hx hy
      by_cases hneg : x < y + cc
      all_goals
        go_wp2_with fail
        refine cx.mono ?_
        rintro e w1 ⟨rfl, rfl⟩
        go_wp2_with fail
        refine cy.mono ?_
        rintro e w1 ⟨rfl, rfl⟩
        clear cx cy
      · go_wp2_with (at_builtin; refine wpList_append_own _ rfl _ _ 118 rfl w.heap.size 3 i0 (.int .i64 0) 1 8 Tryz.underlying118 hi hz0 hz1 hz2 rfl (by decide) u5 ds.length (ivals ds) rfl (HO.out.alloc _) ⟨wr.heap.size, 0, none⟩ 1 1 [.int .i64 ((x : Int) - (y : Int) - (cc : Int) + 10)] rfl rfl (one_new _ _ _) (one_cell _ _) (by have := HL.out; unfold maxLen; omega) (by have := HL.out; omega) (by simp; omega) ?_; intro v2 w2 hown2 hgr2 _)
        refine ⟨⟨k + 1, 1, by omega, by go_num, by go_num, by omega, HS.out (x + 10 - y - cc) 1 _ w2 v2 (by omega) (by omega) (by omega) (by omega) hown2 ((HB.out.alloc (by omega) _).grown hgr2 (by simp; omega) (fun b e => (HO.out.lt b e).1))⟩, by simp only [intOf]; omega⟩
      · go_wp2_with (at_builtin; refine wpList_append_own _ rfl _ _ 118 rfl w.heap.size 3 i0 (.int .i64 0) 1 8 Tryz.underlying118 hi hz0 hz1 hz2 rfl (by decide) u5 ds.length (ivals ds) rfl (HO.out.alloc _) ⟨wr.heap.size, 0, none⟩ 1 1 [.int .i64 ((x : Int) - (y : Int) - (cc : Int))] rfl rfl (one_new _ _ _) (one_cell _ _) (by have := HL.out; unfold maxLen; omega) (by have := HL.out; omega) (by simp; omega) ?_; intro v2 w2 hown2 hgr2 _)
        refine ⟨⟨k + 1, 0, by omega, by go_num, by go_num, by omega, HS.out (x - y - cc) 0 _ w2 v2 (by omega) (by omega) (by omega) (by omega) hown2 ((HB.out.alloc (by omega) _).grown hgr2 (by simp; omega) (fun b e => (HO.out.lt b e).1))⟩, by simp only [intOf]; omega⟩
    · obtain rfl : k = (num a).size := by omega
      have hD := dv_lt z2
      rw [z1] at hD
      have hv := minus_end z4 HA.out hle.out hD
      have ct := reftext_any wr u5 ds (z3.at (by intro h; rw [h] at z1; simp at z1; omega)) (by omega) (by omega) z2
      rw [hv] at ct
      replace z5 := Lib.hid z5
      clear z1 z2 z3 z4 hv hD
      go_wp2_with fail
      refine ct.mono ?_
      rintro e w1 ⟨rfl, hb⟩
      have hB := Lib.hid (z5.out.trans (hb.mono hsz))
      clear hb ct
      go_wp2
      go_ret
      exact ⟨rfl, hB.out⟩

end Nt
end Go.Proofs.YtjahnkeafaebdaaGreatDoor
