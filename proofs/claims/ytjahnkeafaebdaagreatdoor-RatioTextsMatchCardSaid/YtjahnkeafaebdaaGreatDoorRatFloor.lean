/- ratio's Floor. -/
import Derived.Test.YtjahnkeafaebdaaGreatDoorRatOf
import Derived.LaidEql
namespace Go.Proofs.YtjahnkeafaebdaaGreatDoor
open Go.RowKit Go.Shelf
namespace Nt

theorem atoi_neg (n : Nat) (hn : 0 < n) : Lib.atoiAll (45 :: Lib.decDigits n) = if n ≤ 9223372036854775808 then .ok (-(n : Int)) else .range := by
  have hd := decDigits_dig n
  have hv := dval_decDigits n
  have hne := decDigits_ne n
  have hp := parse10 (Lib.decDigits n) 0 hd (by omega)
  rw [Nat.zero_mul, Nat.zero_add, hv] at hp
  unfold Lib.atoiAll
  simp only [Lib.parseMag]
  have e45 : (if (45 : UInt8).toNat = 43 ∨ (45 : UInt8).toNat = 45 then Lib.decDigits n else 45 :: Lib.decDigits n) = Lib.decDigits n := if_pos (by decide)
  rw [e45, if_neg hne, hp]
  by_cases hle : n ≤ 9223372036854775808
  · rw [if_pos (by omega), if_pos hle]
    simp
    omega
  · rw [if_neg hle]
    by_cases h64 : n < 18446744073709551616
    · rw [if_pos h64]
      simp
      omega
    · rw [if_neg h64]

/-- What Atoi does to a text: a number, or some error. -/
def AtoiOk (s : ByteArray) (z : Int) : Prop := ∀ W, Env W → Calls Tryz.prog 41 #[.string s] W fun e w' => e = .returned (.tuple #[.int .i64 z, .nilIface]) ∧ Below W.heap.size W w'
def AtoiBad (s : ByteArray) : Prop := ∀ W, Env W → Calls Tryz.prog 41 #[.string s] W fun e w' => ∃ (z : Int) (N : Nat), e = .returned (.tuple #[.int .i64 z, .iface 106 (.pointer (some ⟨N, 0, none⟩))]) ∧ Below W.heap.size W w'
theorem atoi_ok (s : ByteArray) (z : Int) (hs : s.size ≤ 1000000) (h : Lib.atoiAll s.data.toList = .ok z) : AtoiOk s z := fun W _ => by
  refine (Tryz.strconv_Atoi_ok s (by omega) _ h W).mono ?_
  rintro e w' ⟨rfl, rfl | ⟨t, rfl⟩⟩
  · exact ⟨rfl, Below.refl _ _⟩
  · exact ⟨rfl, Go.Joins.below_bytesWorld _ _ _ _ (Nat.le_refl _)⟩
theorem atoi_bad (s : ByteArray) (hs : s.size ≤ 1000000) (h : Lib.atoiAll s.data.toList = .range) : AtoiBad s := fun W hE => by
  obtain ⟨tp, p, hv⟩ := hE.rng
  refine (Tryz.strconv_Atoi_range_var s (by omega) h tp p W hv).mono ?_
  rintro e w' ⟨N, rfl, _, _, hb⟩
  exact ⟨_, N, rfl, hb⟩

def InInt (z : Int) : Prop := -9223372036854775808 ≤ z ∧ z ≤ 9223372036854775807
instance (z : Int) : Decidable (InInt z) := inferInstanceAs (Decidable (_ ∧ _))
theorem T_size (n : Nat) (h : n < Lim) : (T (some n)).size ≤ 300 := by
  have h1 : isN (T (some n)) = true := isN_T (ok_some h)
  exact size_of_isN h1
theorem minus_list (n : Nat) : ((⟨#[45]⟩ : ByteArray) ++ T (some n)).data.toList = 45 :: Lib.decDigits n := by
  rw [ByteArray.toList_data_append]
  rfl
theorem minus_size (n : Nat) (h : n < Lim) : ((⟨#[45]⟩ : ByteArray) ++ T (some n)).size ≤ 301 := by
  have h1 := T_size n h
  have h2 : (T (some n)).size = (Lib.decDigits n).length := by rw [Lib.size_eq]; rfl
  rw [Lib.size_eq, minus_list, List.length_cons]
  omega

theorem addOneT (k : Nat) (w : World) (hE : Env w) (hk : k + 1 < Lim) : Calls Tryz.prog 40 #[.string (T (some k)), .string ⟨#[49]⟩] w fun e w' => e = .returned (.tuple #[.string (T (some (k + 1))), .int .i64 0]) ∧ Below w.heap.size w w' := by
  have := addT (some k) (some 1) w hE (ok_some (by omega)) (ok_some one_lt_Lim)
  rw [show sumO (some k) (some 1) = some (k + 1) by simp only [sumO, apO, limO, if_pos hk], show sumE (some k) (some 1) = 0 by simp only [sumE, apE, if_pos hk], T_one] at this
  exact this

set_option maxRecDepth 100000 in
set_option maxHeartbeats 2000000 in
theorem Floor_pos_ok (a b k r : Nat) (w : World) (hE : Env w) (ha : a < Lim) (hb : b < Lim) (hv : validB false (T (some a)) (T (some b)) = true) (hq : quoO (some a) (some b) = some k ∧ remO (some a) (some b) = some r ∧ quoX (some a) (some b) = 0) (_hkl : k < Lim) (z : Int) (hA : AtoiOk (T (some k)) z) :
    Calls Tryz.prog 12 #[.agg #[.bool false, .string (T (some a)), .string (T (some b))]] w fun e w' => e = .returned (.tuple #[.int .i64 z, .int .i64 0]) ∧ Below w.heap.size w w' := by
  have sa := size_T (ok_some ha)
  have sb := size_T (ok_some hb)
  replace hE := Lib.hid hE
  replace hv := Lib.hid hv
  replace hq := Lib.hid hq
  replace hA := Lib.hid hA
  go_enter Tryz.func12, Tryz.ntmps12
  go_wp2_with fail
  refine (Valid_any false (T (some a)) (T (some b)) _ (hE.out.below (one_below _ _)) sa sb).mono ?_
  rintro e w1 ⟨rfl, hb1⟩
  rw [hv.out]
  have q1 := (B3.new w false (T (some a)) (T (some b))).below hb1
  have hB1 := Lib.hid ((one_below w (.cells #[.bool false, .string (T (some a)), .string (T (some b))] 23)).trans (hb1.mono (by simp)))
  obtain ⟨a1, a2, a3, a4, a5, a6⟩ := q1.facts
  clear hb1
  replace q1 := Lib.hid q1
  go_wp2_with fail
  refine (divT (some a) (some b) _ (hE.out.below hB1.out) (ok_some ha) (ok_some hb)).mono ?_
  rintro e w2 ⟨rfl, hb2⟩
  rw [hq.out.1, hq.out.2.1, hq.out.2.2]
  have q2 := q1.out.below hb2
  have hB2 := Lib.hid (hB1.out.trans (hb2.mono hB1.out.size))
  clear a1 a2 a3 a4 a5 a6 hb2 q1
  obtain ⟨a1, a2, a3, a4, a5, a6⟩ := q2.facts
  replace q2 := Lib.hid q2
  go_wp2_with fail
  refine (hA.out _ (hE.out.below hB2.out)).mono ?_
  rintro e w4 ⟨rfl, hb4⟩
  have hB4 := Lib.hid (hB2.out.trans (hb4.mono hB2.out.size))
  clear hb4
  go_wp2
  go_ret2
  exact ⟨rfl, hB4.out⟩

set_option maxRecDepth 100000 in
set_option maxHeartbeats 2000000 in
theorem Floor_pos_bad (a b k r : Nat) (w : World) (hE : Env w) (ha : a < Lim) (hb : b < Lim) (hv : validB false (T (some a)) (T (some b)) = true) (hq : quoO (some a) (some b) = some k ∧ remO (some a) (some b) = some r ∧ quoX (some a) (some b) = 0) (_hkl : k < Lim) (hA : AtoiBad (T (some k))) :
    Calls Tryz.prog 12 #[.agg #[.bool false, .string (T (some a)), .string (T (some b))]] w fun e w' => e = .returned (.tuple #[.int .i64 0, .int .i64 10]) ∧ Below w.heap.size w w' := by
  have sa := size_T (ok_some ha)
  have sb := size_T (ok_some hb)
  replace hE := Lib.hid hE
  replace hv := Lib.hid hv
  replace hq := Lib.hid hq
  replace hA := Lib.hid hA
  go_enter Tryz.func12, Tryz.ntmps12
  go_wp2_with fail
  refine (Valid_any false (T (some a)) (T (some b)) _ (hE.out.below (one_below _ _)) sa sb).mono ?_
  rintro e w1 ⟨rfl, hb1⟩
  rw [hv.out]
  have q1 := (B3.new w false (T (some a)) (T (some b))).below hb1
  have hB1 := Lib.hid ((one_below w (.cells #[.bool false, .string (T (some a)), .string (T (some b))] 23)).trans (hb1.mono (by simp)))
  obtain ⟨a1, a2, a3, a4, a5, a6⟩ := q1.facts
  clear hb1
  replace q1 := Lib.hid q1
  go_wp2_with fail
  refine (divT (some a) (some b) _ (hE.out.below hB1.out) (ok_some ha) (ok_some hb)).mono ?_
  rintro e w2 ⟨rfl, hb2⟩
  rw [hq.out.1, hq.out.2.1, hq.out.2.2]
  have q2 := q1.out.below hb2
  have hB2 := Lib.hid (hB1.out.trans (hb2.mono hB1.out.size))
  clear a1 a2 a3 a4 a5 a6 hb2 q1
  obtain ⟨a1, a2, a3, a4, a5, a6⟩ := q2.facts
  replace q2 := Lib.hid q2
  go_wp2_with fail
  refine (hA.out _ (hE.out.below hB2.out)).mono ?_
  rintro e w4 ⟨y, N, rfl, hb4⟩
  have hB4 := Lib.hid (hB2.out.trans (hb4.mono hB2.out.size))
  clear hb4
  go_wp2
  go_ret2
  exact ⟨rfl, hB4.out⟩

set_option maxRecDepth 100000 in
set_option maxHeartbeats 2000000 in
theorem Floor_neg0_ok (a b k r : Nat) (w : World) (hE : Env w) (ha : a < Lim) (hb : b < Lim) (hv : validB true (T (some a)) (T (some b)) = true) (hq : quoO (some a) (some b) = some k ∧ remO (some a) (some b) = some r ∧ quoX (some a) (some b) = 0) (hkl : k < Lim) (hr : r = 0) (z : Int) (hA : AtoiOk ((⟨#[45]⟩ : ByteArray) ++ T (some k)) z) :
    Calls Tryz.prog 12 #[.agg #[.bool true, .string (T (some a)), .string (T (some b))]] w fun e w' => e = .returned (.tuple #[.int .i64 z, .int .i64 0]) ∧ Below w.heap.size w w' := by
  have sa := size_T (ok_some ha)
  have sb := size_T (ok_some hb)
  have zr := T_is_zero r
  rw [decide_eq_true hr] at zr
  have szk := T_size k hkl
  clear hr
  replace hE := Lib.hid hE
  replace hv := Lib.hid hv
  replace hq := Lib.hid hq
  replace hA := Lib.hid hA
  go_enter Tryz.func12, Tryz.ntmps12
  go_wp2_with fail
  refine (Valid_any true (T (some a)) (T (some b)) _ (hE.out.below (one_below _ _)) sa sb).mono ?_
  rintro e w1 ⟨rfl, hb1⟩
  rw [hv.out]
  have q1 := (B3.new w true (T (some a)) (T (some b))).below hb1
  have hB1 := Lib.hid ((one_below w (.cells #[.bool true, .string (T (some a)), .string (T (some b))] 23)).trans (hb1.mono (by simp)))
  obtain ⟨a1, a2, a3, a4, a5, a6⟩ := q1.facts
  clear hb1
  replace q1 := Lib.hid q1
  go_wp2_with fail
  refine (divT (some a) (some b) _ (hE.out.below hB1.out) (ok_some ha) (ok_some hb)).mono ?_
  rintro e w2 ⟨rfl, hb2⟩
  rw [hq.out.1, hq.out.2.1, hq.out.2.2]
  have q2 := q1.out.below hb2
  have hB2 := Lib.hid (hB1.out.trans (hb2.mono hB1.out.size))
  clear a1 a2 a3 a4 a5 a6 hb2 q1
  obtain ⟨a1, a2, a3, a4, a5, a6⟩ := q2.facts
  replace q2 := Lib.hid q2
  go_wp2_with fail
  refine (hA.out _ (hE.out.below hB2.out)).mono ?_
  rintro e w4 ⟨rfl, hb4⟩
  have hB4 := Lib.hid (hB2.out.trans (hb4.mono hB2.out.size))
  clear hb4
  go_wp2
  go_ret2
  exact ⟨rfl, hB4.out⟩

set_option maxRecDepth 100000 in
set_option maxHeartbeats 2000000 in
theorem Floor_neg0_bad (a b k r : Nat) (w : World) (hE : Env w) (ha : a < Lim) (hb : b < Lim) (hv : validB true (T (some a)) (T (some b)) = true) (hq : quoO (some a) (some b) = some k ∧ remO (some a) (some b) = some r ∧ quoX (some a) (some b) = 0) (hkl : k < Lim) (hr : r = 0) (hA : AtoiBad ((⟨#[45]⟩ : ByteArray) ++ T (some k))) :
    Calls Tryz.prog 12 #[.agg #[.bool true, .string (T (some a)), .string (T (some b))]] w fun e w' => e = .returned (.tuple #[.int .i64 0, .int .i64 10]) ∧ Below w.heap.size w w' := by
  have sa := size_T (ok_some ha)
  have sb := size_T (ok_some hb)
  have zr := T_is_zero r
  rw [decide_eq_true hr] at zr
  have szk := T_size k hkl
  clear hr
  replace hE := Lib.hid hE
  replace hv := Lib.hid hv
  replace hq := Lib.hid hq
  replace hA := Lib.hid hA
  go_enter Tryz.func12, Tryz.ntmps12
  go_wp2_with fail
  refine (Valid_any true (T (some a)) (T (some b)) _ (hE.out.below (one_below _ _)) sa sb).mono ?_
  rintro e w1 ⟨rfl, hb1⟩
  rw [hv.out]
  have q1 := (B3.new w true (T (some a)) (T (some b))).below hb1
  have hB1 := Lib.hid ((one_below w (.cells #[.bool true, .string (T (some a)), .string (T (some b))] 23)).trans (hb1.mono (by simp)))
  obtain ⟨a1, a2, a3, a4, a5, a6⟩ := q1.facts
  clear hb1
  replace q1 := Lib.hid q1
  go_wp2_with fail
  refine (divT (some a) (some b) _ (hE.out.below hB1.out) (ok_some ha) (ok_some hb)).mono ?_
  rintro e w2 ⟨rfl, hb2⟩
  rw [hq.out.1, hq.out.2.1, hq.out.2.2]
  have q2 := q1.out.below hb2
  have hB2 := Lib.hid (hB1.out.trans (hb2.mono hB1.out.size))
  clear a1 a2 a3 a4 a5 a6 hb2 q1
  obtain ⟨a1, a2, a3, a4, a5, a6⟩ := q2.facts
  replace q2 := Lib.hid q2
  go_wp2_with fail
  refine (hA.out _ (hE.out.below hB2.out)).mono ?_
  rintro e w4 ⟨y, N, rfl, hb4⟩
  have hB4 := Lib.hid (hB2.out.trans (hb4.mono hB2.out.size))
  clear hb4
  go_wp2
  go_ret2
  exact ⟨rfl, hB4.out⟩

set_option maxRecDepth 100000 in
set_option maxHeartbeats 2000000 in
theorem Floor_neg1_ok (a b k r : Nat) (w : World) (hE : Env w) (ha : a < Lim) (hb : b < Lim) (hv : validB true (T (some a)) (T (some b)) = true) (hq : quoO (some a) (some b) = some k ∧ remO (some a) (some b) = some r ∧ quoX (some a) (some b) = 0) (_hkl : k < Lim) (hr : r ≠ 0) (hk1 : k + 1 < Lim) (z : Int) (hA : AtoiOk ((⟨#[45]⟩ : ByteArray) ++ T (some (k + 1))) z) :
    Calls Tryz.prog 12 #[.agg #[.bool true, .string (T (some a)), .string (T (some b))]] w fun e w' => e = .returned (.tuple #[.int .i64 z, .int .i64 0]) ∧ Below w.heap.size w w' := by
  have sa := size_T (ok_some ha)
  have sb := size_T (ok_some hb)
  have zr := T_is_zero r
  rw [decide_eq_false hr] at zr
  have szk := T_size (k + 1) hk1
  replace hr := Lib.hid hr
  replace hE := Lib.hid hE
  replace hv := Lib.hid hv
  replace hq := Lib.hid hq
  replace hA := Lib.hid hA
  go_enter Tryz.func12, Tryz.ntmps12
  go_wp2_with fail
  refine (Valid_any true (T (some a)) (T (some b)) _ (hE.out.below (one_below _ _)) sa sb).mono ?_
  rintro e w1 ⟨rfl, hb1⟩
  rw [hv.out]
  have q1 := (B3.new w true (T (some a)) (T (some b))).below hb1
  have hB1 := Lib.hid ((one_below w (.cells #[.bool true, .string (T (some a)), .string (T (some b))] 23)).trans (hb1.mono (by simp)))
  obtain ⟨a1, a2, a3, a4, a5, a6⟩ := q1.facts
  clear hb1
  replace q1 := Lib.hid q1
  go_wp2_with fail
  refine (divT (some a) (some b) _ (hE.out.below hB1.out) (ok_some ha) (ok_some hb)).mono ?_
  rintro e w2 ⟨rfl, hb2⟩
  rw [hq.out.1, hq.out.2.1, hq.out.2.2]
  have q2 := q1.out.below hb2
  have hB2 := Lib.hid (hB1.out.trans (hb2.mono hB1.out.size))
  clear a1 a2 a3 a4 a5 a6 hb2 q1
  obtain ⟨a1, a2, a3, a4, a5, a6⟩ := q2.facts
  replace q2 := Lib.hid q2
  go_wp2_with fail
  refine (addOneT k _ (hE.out.below hB2.out) hk1).mono ?_
  rintro e w3 ⟨rfl, hb3⟩
  have hB3 := Lib.hid (hB2.out.trans (hb3.mono hB2.out.size))
  clear a1 a2 a3 a4 a5 a6 hb3
  go_wp2_with fail
  refine (hA.out _ (hE.out.below hB3.out)).mono ?_
  rintro e w4 ⟨rfl, hb4⟩
  have hB4 := Lib.hid (hB3.out.trans (hb4.mono hB3.out.size))
  clear hb4
  go_wp2
  go_ret2
  exact ⟨rfl, hB4.out⟩

set_option maxRecDepth 100000 in
set_option maxHeartbeats 2000000 in
theorem Floor_neg1_bad (a b k r : Nat) (w : World) (hE : Env w) (ha : a < Lim) (hb : b < Lim) (hv : validB true (T (some a)) (T (some b)) = true) (hq : quoO (some a) (some b) = some k ∧ remO (some a) (some b) = some r ∧ quoX (some a) (some b) = 0) (_hkl : k < Lim) (hr : r ≠ 0) (hk1 : k + 1 < Lim) (hA : AtoiBad ((⟨#[45]⟩ : ByteArray) ++ T (some (k + 1)))) :
    Calls Tryz.prog 12 #[.agg #[.bool true, .string (T (some a)), .string (T (some b))]] w fun e w' => e = .returned (.tuple #[.int .i64 0, .int .i64 10]) ∧ Below w.heap.size w w' := by
  have sa := size_T (ok_some ha)
  have sb := size_T (ok_some hb)
  have zr := T_is_zero r
  rw [decide_eq_false hr] at zr
  have szk := T_size (k + 1) hk1
  replace hr := Lib.hid hr
  replace hE := Lib.hid hE
  replace hv := Lib.hid hv
  replace hq := Lib.hid hq
  replace hA := Lib.hid hA
  go_enter Tryz.func12, Tryz.ntmps12
  go_wp2_with fail
  refine (Valid_any true (T (some a)) (T (some b)) _ (hE.out.below (one_below _ _)) sa sb).mono ?_
  rintro e w1 ⟨rfl, hb1⟩
  rw [hv.out]
  have q1 := (B3.new w true (T (some a)) (T (some b))).below hb1
  have hB1 := Lib.hid ((one_below w (.cells #[.bool true, .string (T (some a)), .string (T (some b))] 23)).trans (hb1.mono (by simp)))
  obtain ⟨a1, a2, a3, a4, a5, a6⟩ := q1.facts
  clear hb1
  replace q1 := Lib.hid q1
  go_wp2_with fail
  refine (divT (some a) (some b) _ (hE.out.below hB1.out) (ok_some ha) (ok_some hb)).mono ?_
  rintro e w2 ⟨rfl, hb2⟩
  rw [hq.out.1, hq.out.2.1, hq.out.2.2]
  have q2 := q1.out.below hb2
  have hB2 := Lib.hid (hB1.out.trans (hb2.mono hB1.out.size))
  clear a1 a2 a3 a4 a5 a6 hb2 q1
  obtain ⟨a1, a2, a3, a4, a5, a6⟩ := q2.facts
  replace q2 := Lib.hid q2
  go_wp2_with fail
  refine (addOneT k _ (hE.out.below hB2.out) hk1).mono ?_
  rintro e w3 ⟨rfl, hb3⟩
  have hB3 := Lib.hid (hB2.out.trans (hb3.mono hB2.out.size))
  clear a1 a2 a3 a4 a5 a6 hb3
  go_wp2_with fail
  refine (hA.out _ (hE.out.below hB3.out)).mono ?_
  rintro e w4 ⟨y, N, rfl, hb4⟩
  have hB4 := Lib.hid (hB3.out.trans (hb4.mono hB3.out.size))
  clear hb4
  go_wp2
  go_ret2
  exact ⟨rfl, hB4.out⟩

theorem neg_ediv_up (a d : Nat) (hd : 0 < d) (hr : a % d ≠ 0) : (-(a : Int)) / (d : Int) = -((a / d + 1 : Nat) : Int) := by
  have h1 := Nat.div_add_mod a d
  have h2 := Nat.mod_lt a hd
  have key : (-(a : Int)) / (d : Int) = -((a / d + 1 : Nat) : Int) ∧ (-(a : Int)) % (d : Int) = ((d - a % d : Nat) : Int) := by
    refine (Int.ediv_emod_unique (by omega)).2 ⟨?_, by omega, by omega⟩
    generalize a / d = k at *
    generalize a % d = r at *
    have h3 : ((d * k : Nat) : Int) = (d : Int) * (k : Int) := Int.natCast_mul _ _
    have h4 : (d : Int) * (-((k + 1 : Nat) : Int)) = -((d : Int) * (k : Int)) - d := by
      rw [Int.mul_neg, Int.natCast_add, Int.mul_add]
      omega
    rw [h4, ← h3]
    omega
  exact key.1

/-- The floor of a number, where an int holds it. -/
def floorV (q : Rat) : Int := if InInt q.floor then q.floor else 0
def floorE (q : Rat) : Int := if InInt q.floor then 0 else 10

theorem Floor_any (q : Rat) (hq : OkQ q) (w : World) (hE : Env w) :
    Calls Tryz.prog 12 #[qv q] w fun e w' => e = .returned (.tuple #[.int .i64 (floorV q), .int .i64 (floorE q)]) ∧ Below w.heap.size w w' := by
  have hv := valid_qv hq
  have hd := q.den_nz
  have hqq : quoO (some q.num.natAbs) (some q.den) = some (q.num.natAbs / q.den) ∧ remO (some q.num.natAbs) (some q.den) = some (q.num.natAbs % q.den) ∧ quoX (some q.num.natAbs) (some q.den) = 0 := ⟨if_neg hd, if_neg hd, if_neg hd⟩
  have hkl : q.num.natAbs / q.den < Lim := Nat.lt_of_le_of_lt (Nat.div_le_self _ _) hq.1
  have hfl : q.floor = q.num / q.den := Rat.floor_def q
  unfold floorV floorE
  rw [hfl]
  unfold qv
  have ht := T_size _ hkl
  by_cases hn : q.num < 0
  · rw [decide_eq_true hn] at hv ⊢
    by_cases hr : q.num.natAbs % q.den = 0
    · have hz : q.num / (q.den : Int) = -((q.num.natAbs / q.den : Nat) : Int) := by
        have e : q.num = -((q.num.natAbs : Nat) : Int) := by omega
        conv => lhs; rw [e]
        rw [Int.neg_ediv_of_dvd (Int.ofNat_dvd.2 (Nat.dvd_of_mod_eq_zero hr)), Int.natCast_ediv]
      have hk0 : 0 < q.num.natAbs / q.den := Nat.div_pos (Nat.le_of_dvd (by omega) (Nat.dvd_of_mod_eq_zero hr)) (by omega)
      have ha := atoi_neg _ hk0
      rw [← minus_list] at ha
      have hms := minus_size _ hkl
      rw [hz]
      clear hz hfl
      generalize q.num.natAbs / q.den = k at *
      by_cases hi : k ≤ 9223372036854775808
      · rw [if_pos hi] at ha
        have hin : InInt (-((k : Nat) : Int)) := ⟨by omega, by omega⟩
        rw [if_pos hin, if_pos hin]
        exact Floor_neg0_ok _ _ _ _ w hE hq.1 hq.2 hv hqq hkl hr _ (atoi_ok _ _ (by omega) ha)
      · rw [if_neg hi] at ha
        have hin : ¬ InInt (-((k : Nat) : Int)) := fun h => hi (by have := h.1; omega)
        rw [if_neg hin, if_neg hin]
        exact Floor_neg0_bad _ _ _ _ w hE hq.1 hq.2 hv hqq hkl hr (atoi_bad _ (by omega) ha)
    · have hz : q.num / (q.den : Int) = -((q.num.natAbs / q.den + 1 : Nat) : Int) := by
        have e : q.num = -((q.num.natAbs : Nat) : Int) := by omega
        conv => lhs; rw [e]
        exact neg_ediv_up _ _ (by omega) hr
      have hk1 : q.num.natAbs / q.den + 1 < Lim := by
        have h2 : 2 ≤ q.den := by
          rcases Nat.lt_or_ge q.den 2 with h | h
          · have : q.den = 1 := by omega
            rw [this, Nat.mod_one] at hr
            exact absurd rfl hr
          · exact h
        have h3 : q.num.natAbs / q.den ≤ q.num.natAbs / 2 := Nat.div_le_div_left h2 (by omega)
        generalize q.num.natAbs / q.den = k at *
        have := hq.1
        have := one_lt_Lim
        omega
      have ha := atoi_neg (q.num.natAbs / q.den + 1) (Nat.succ_pos _)
      rw [← minus_list] at ha
      have hms := minus_size _ hk1
      rw [hz]
      clear hz hfl
      generalize q.num.natAbs / q.den = k at *
      by_cases hi : k + 1 ≤ 9223372036854775808
      · rw [if_pos hi] at ha
        have hin : InInt (-((k + 1 : Nat) : Int)) := ⟨by omega, by omega⟩
        rw [if_pos hin, if_pos hin]
        exact Floor_neg1_ok _ _ _ _ w hE hq.1 hq.2 hv hqq hkl hr hk1 _ (atoi_ok _ _ (by omega) ha)
      · rw [if_neg hi] at ha
        have hin : ¬ InInt (-((k + 1 : Nat) : Int)) := fun h => hi (by have := h.1; omega)
        rw [if_neg hin, if_neg hin]
        exact Floor_neg1_bad _ _ _ _ w hE hq.1 hq.2 hv hqq hkl hr hk1 (atoi_bad _ (by omega) ha)
  · rw [decide_eq_false hn] at hv ⊢
    have hz : q.num / (q.den : Int) = ((q.num.natAbs / q.den : Nat) : Int) := by
      have e : q.num = ((q.num.natAbs : Nat) : Int) := by omega
      conv => lhs; rw [e]
      rw [Int.natCast_ediv]
    have ha := atoi_num (q.num.natAbs / q.den)
    rw [hz]
    clear hz hfl
    generalize q.num.natAbs / q.den = k at *
    by_cases hi : k ≤ 9223372036854775807
    · rw [if_pos hi] at ha
      have hin : InInt ((k : Nat) : Int) := ⟨by omega, by omega⟩
      rw [if_pos hin, if_pos hin]
      exact Floor_pos_ok _ _ _ _ w hE hq.1 hq.2 hv hqq hkl _ (atoi_ok _ _ (by omega) ha)
    · rw [if_neg hi] at ha
      have hin : ¬ InInt ((k : Nat) : Int) := fun h => hi (by have := h.2; omega)
      rw [if_neg hin, if_neg hin]
      exact Floor_pos_bad _ _ _ _ w hE hq.1 hq.2 hv hqq hkl (atoi_bad _ (by omega) ha)

end Nt
end Go.Proofs.YtjahnkeafaebdaaGreatDoor

