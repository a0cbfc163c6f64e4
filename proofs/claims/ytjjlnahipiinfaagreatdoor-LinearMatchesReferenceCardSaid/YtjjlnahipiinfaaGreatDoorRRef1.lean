/- The reference's rational numbers: Valid, reduce, Of, Make, Neg. -/
import Derived.Test.YtjjlnahipiinfaaGreatDoorRatDuo
import Derived.Test.YtjjlnahipiinfaaGreatDoorRatShow
import Derived.Test.YtjjlnahipiinfaaGreatDoorRefA
namespace Go.Proofs.YtjjlnahipiinfaaGreatDoor
open Go.RowKit Go.Shelf
namespace Nt

theorem rgcd (a b : Nat) (w : World) (ha : a < Lim) (hb : b < Lim) : Calls Tryz.prog 68 #[.string (T (some a)), .string (T (some b))] w fun e w' => e = .returned (.tuple #[.string (T (some (Nat.gcd a b))), .int .i64 0]) ∧ Below w.heap.size w w' := RefGcd_num a b w ha hb
theorem rdiv (a b : Nat) (w : World) (ha : a < Lim) (hb : b < Lim) (h : b ≠ 0) : Calls Tryz.prog 71 #[.string (T (some a)), .string (T (some b))] w fun e w' => e = .returned (.tuple #[.string (T (some (a / b))), .string (T (some (a % b))), .int .i64 0]) ∧ Below w.heap.size w w' := RefDiv_num a b w ha hb h
theorem radd (a b : Nat) (w : World) (ha : a < Lim) (hb : b < Lim) (h : a + b < Lim) : Calls Tryz.prog 72 #[.string (T (some a)), .string (T (some b))] w fun e w' => e = .returned (.tuple #[.string (T (some (a + b))), .int .i64 0]) ∧ Below w.heap.size w w' := by
  have := RefAdd_num a b w ha hb (by have := lim_size h; omega)
  unfold strL errL at this
  rw [if_pos h, if_pos h] at this
  exact this
theorem rmul (a b : Nat) (w : World) (ha : a < Lim) (hb : b < Lim) (h : a * b < Lim) : Calls Tryz.prog 51 #[.string (T (some a)), .string (T (some b))] w fun e w' => e = .returned (.tuple #[.string (T (some (a * b))), .int .i64 0]) ∧ Below w.heap.size w w' := by
  have := RefMul_num a b w ha hb (by have := lim_size h; omega)
  unfold strL errL at this
  rw [if_pos h, if_pos h] at this
  exact this
theorem rsub (a b : Nat) (w : World) (ha : a < Lim) (hb : b < Lim) (h : b ≤ a) : Calls Tryz.prog 74 #[.string (T (some a)), .string (T (some b))] w fun e w' => e = .returned (.tuple #[.string (T (some (a - b))), .int .i64 0]) ∧ Below w.heap.size w w' := RefSub_num a b w ha hb h
theorem rcmp (a b : Nat) (w : World) (ha : a < Lim) (hb : b < Lim) : Calls Tryz.prog 73 #[.string (T (some a)), .string (T (some b))] w fun e w' => e = .returned (.tuple #[.int .i64 (cmpN a b), .int .i64 0]) ∧ Below w.heap.size w w' := RefCompare_num a b w ha hb
theorem ris (s : ByteArray) (b : Bool) (h : isN s = b) (w : World) (hs : s.size ≤ 140737488355328) : Calls Tryz.prog 67 #[.string s] w fun e w' => e = .returned (.bool b) ∧ w = w' := by
  have := RefIs_any s w hs
  rwa [h] at this

set_option maxRecDepth 100000 in
set_option maxHeartbeats 1000000 in
theorem RRValid_bad1 (g : Bool) (n d : ByteArray) (w : World) (hn : n.size ≤ 140737488355328) (h : isN n = false) :
    Calls Tryz.prog 49 #[.agg #[.bool g, .string n, .string d]] w fun e w' => e = .returned (.bool false) ∧ Below w.heap.size w w' := by
  replace h := Lib.hid h
  go_enter Tryz.func49, Tryz.ntmps49
  go_wp2_with fail
  refine (ris n false h.out _ hn).mono ?_
  rintro e w1 ⟨rfl, rfl⟩
  go_wp2
  go_ret
  exact ⟨rfl, uniW_below w _ _ _⟩

set_option maxRecDepth 100000 in
set_option maxHeartbeats 1000000 in
theorem RRValid_bad2 (g : Bool) (n d : ByteArray) (w : World) (hn : n.size ≤ 140737488355328) (hd : d.size ≤ 140737488355328) (h : isN n = true) (h2 : isN d = false) :
    Calls Tryz.prog 49 #[.agg #[.bool g, .string n, .string d]] w fun e w' => e = .returned (.bool false) ∧ Below w.heap.size w w' := by
  replace h := Lib.hid h
  replace h2 := Lib.hid h2
  go_enter Tryz.func49, Tryz.ntmps49
  go_wp2_with fail
  refine (ris n true h.out _ hn).mono ?_
  rintro e w1 ⟨rfl, rfl⟩
  go_wp2_with fail
  refine (ris d false h2.out _ hd).mono ?_
  rintro e w1 ⟨rfl, rfl⟩
  go_wp2
  go_ret
  exact ⟨rfl, uniW_below w _ _ _⟩

set_option maxRecDepth 100000 in
set_option maxHeartbeats 1000000 in
theorem RRValid_zden (g : Bool) (a : Nat) (w : World) (ha : a < Lim) :
    Calls Tryz.prog 49 #[.agg #[.bool g, .string (T (some a)), .string (T (some 0))]] w fun e w' => e = .returned (.bool false) ∧ Below w.heap.size w w' := by
  have hb : 0 < Lim := by omega
  have ia := Lib.hid (isN_T (ok_some ha))
  have za := Lib.hid (size_T (ok_some ha))
  have ib := Lib.hid (isN_T (ok_some hb))
  have zb := Lib.hid (size_T (ok_some hb))
  have z := T_is_zero 0
  rw [decide_eq_true rfl] at z
  go_enter Tryz.func49, Tryz.ntmps49
  go_wp2_with fail
  refine (ris _ true ia.out _ za.out).mono ?_
  rintro e w1 ⟨rfl, rfl⟩
  go_wp2_with fail
  refine (ris _ true ib.out _ zb.out).mono ?_
  rintro e w1 ⟨rfl, rfl⟩
  go_wp2
  go_ret
  exact ⟨rfl, uniW_below w _ _ _⟩

set_option maxRecDepth 100000 in
set_option maxHeartbeats 1000000 in
theorem RRValid_neg0 (b : Nat) (w : World) (hb : b < Lim) (hb0 : b ≠ 0) :
    Calls Tryz.prog 49 #[.agg #[.bool true, .string (T (some 0)), .string (T (some b))]] w fun e w' => e = .returned (.bool false) ∧ Below w.heap.size w w' := by
  have ha : 0 < Lim := by omega
  have ia := Lib.hid (isN_T (ok_some ha))
  have za := Lib.hid (size_T (ok_some ha))
  have ib := Lib.hid (isN_T (ok_some hb))
  have zb := Lib.hid (size_T (ok_some hb))
  have z := T_is_zero 0
  rw [decide_eq_true rfl] at z
  have z2 := T_is_zero b
  rw [decide_eq_false hb0] at z2
  replace hb0 := Lib.hid hb0
  go_enter Tryz.func49, Tryz.ntmps49
  go_wp2_with fail
  refine (ris _ true ia.out _ za.out).mono ?_
  rintro e w1 ⟨rfl, rfl⟩
  go_wp2_with fail
  refine (ris _ true ib.out _ zb.out).mono ?_
  rintro e w1 ⟨rfl, rfl⟩
  go_wp2
  go_ret
  exact ⟨rfl, uniW_below w _ _ _⟩

set_option maxRecDepth 100000 in
set_option maxHeartbeats 1000000 in
theorem RRValid_gcd_f (a b : Nat) (w : World) (ha : a < Lim) (hb : b < Lim) (hb0 : b ≠ 0) :
    Calls Tryz.prog 49 #[.agg #[.bool false, .string (T (some a)), .string (T (some b))]] w fun e w' => e = .returned (.bool (decide (Nat.gcd a b = 1))) ∧ Below w.heap.size w w' := by
  have ia := Lib.hid (isN_T (ok_some ha))
  have za := Lib.hid (size_T (ok_some ha))
  have ib := Lib.hid (isN_T (ok_some hb))
  have zb := Lib.hid (size_T (ok_some hb))
  have z2 := T_is_zero b
  rw [decide_eq_false hb0] at z2
  have z3 := T_is_one (Nat.gcd a b)
  replace hb0 := Lib.hid hb0
  go_enter Tryz.func49, Tryz.ntmps49
  go_wp2_with fail
  refine (ris _ true ia.out _ za.out).mono ?_
  rintro e w1 ⟨rfl, rfl⟩
  go_wp2_with fail
  refine (ris _ true ib.out _ zb.out).mono ?_
  rintro e w1 ⟨rfl, rfl⟩
  go_wp2_with fail
  refine (rgcd a b _ ha hb).mono ?_
  rintro e w1 ⟨rfl, hb1⟩
  have hB1 := Lib.hid ((uniW_below w false (T (some a)) (T (some b))).trans (hb1.mono (by simp)))
  clear hb1
  go_wp2
  go_ret
  exact ⟨rfl, hB1.out⟩

set_option maxRecDepth 100000 in
set_option maxHeartbeats 1000000 in
theorem RRValid_gcd_t (a b : Nat) (w : World) (ha : a < Lim) (hb : b < Lim) (hb0 : b ≠ 0) (ha0 : a ≠ 0) :
    Calls Tryz.prog 49 #[.agg #[.bool true, .string (T (some a)), .string (T (some b))]] w fun e w' => e = .returned (.bool (decide (Nat.gcd a b = 1))) ∧ Below w.heap.size w w' := by
  have ia := Lib.hid (isN_T (ok_some ha))
  have za := Lib.hid (size_T (ok_some ha))
  have ib := Lib.hid (isN_T (ok_some hb))
  have zb := Lib.hid (size_T (ok_some hb))
  have z2 := T_is_zero b
  rw [decide_eq_false hb0] at z2
  have z3 := T_is_one (Nat.gcd a b)
  replace hb0 := Lib.hid hb0
  have z := T_is_zero a
  rw [decide_eq_false ha0] at z
  replace ha0 := Lib.hid ha0
  go_enter Tryz.func49, Tryz.ntmps49
  go_wp2_with fail
  refine (ris _ true ia.out _ za.out).mono ?_
  rintro e w1 ⟨rfl, rfl⟩
  go_wp2_with fail
  refine (ris _ true ib.out _ zb.out).mono ?_
  rintro e w1 ⟨rfl, rfl⟩
  go_wp2_with fail
  refine (rgcd a b _ ha hb).mono ?_
  rintro e w1 ⟨rfl, hb1⟩
  have hB1 := Lib.hid ((uniW_below w true (T (some a)) (T (some b))).trans (hb1.mono (by simp)))
  clear hb1
  go_wp2
  go_ret
  exact ⟨rfl, hB1.out⟩

theorem RRValid_any (g : Bool) (n d : ByteArray) (w : World) (hn : n.size ≤ 140737488355328) (hd : d.size ≤ 140737488355328) :
    Calls Tryz.prog 49 #[.agg #[.bool g, .string n, .string d]] w fun e w' => e = .returned (.bool (validB g n d)) ∧ Below w.heap.size w w' := by
  cases h1 : isN n with
  | false =>
    have e : validB g n d = false := by unfold validB; rw [h1]; rfl
    rw [e]
    exact RRValid_bad1 g n d w hn h1
  | true =>
    cases h2 : isN d with
    | false =>
      have e : validB g n d = false := by unfold validB; rw [h1, h2]; rfl
      rw [e]
      exact RRValid_bad2 g n d w hn hd h1 h2
    | true =>
      obtain ⟨a, ha, rfl⟩ := num_of_isN h1
      obtain ⟨b, hb, rfl⟩ := num_of_isN h2
      rw [valid_num g a b ha hb]
      by_cases hb0 : b = 0
      · subst hb0
        simp only [decide_true, Bool.not_true, Bool.false_and]
        exact RRValid_zden g a w ha
      · rw [decide_eq_false hb0, Bool.not_false, Bool.true_and]
        by_cases ha0 : a = 0
        · rw [if_pos ha0]
          subst ha0
          cases g with
          | true => exact RRValid_neg0 b w hb hb0
          | false =>
            have e : (!false && decide (b = 1)) = decide (Nat.gcd 0 b = 1) := by
              rw [Bool.not_false, Bool.true_and]
              exact decide_eq_decide.2 (by rw [Nat.gcd_zero_left])
            rw [e]
            exact RRValid_gcd_f 0 b w ha hb hb0
        · rw [if_neg ha0]
          cases g with
          | true => exact RRValid_gcd_t a b w ha hb hb0 ha0
          | false => exact RRValid_gcd_f a b w ha hb hb0

set_option maxRecDepth 100000 in
set_option maxHeartbeats 1000000 in
theorem RRreduce_any (g : Bool) (a b : Nat) (w : World) (ha : a < Lim) (hb : b < Lim) (hb0 : b ≠ 0) :
    Calls Tryz.prog 52 #[.bool g, .string (T (some a)), .string (T (some b))] w fun e w' => e = .returned (.tuple #[qv (mkRat (sg g a) b), .int .i64 0]) ∧ Below w.heap.size w w' := by
  have HV := Lib.hid (qv_mk g a b hb0)
  obtain ⟨G, hGd⟩ : ∃ G, G = Nat.gcd a b := ⟨_, rfl⟩
  have hGl : G < Lim := by rw [hGd]; exact gcd_ltL ha hb
  have hG0 : G ≠ 0 := by rw [hGd]; exact Nat.ne_of_gt (Nat.gcd_pos_of_pos_right a (by omega))
  have k1 := fun W => rgcd a b W ha hb
  rw [← hGd] at HV k1
  have k2 := fun W => rdiv a G W ha hGl hG0
  have k3 := fun W => rdiv b G W hb hGl hG0
  have z := T_is_zero (a / G)
  generalize hx : a / G = x at HV k2 z
  generalize hy : b / G = y at HV k3
  generalize a % G = r1 at k2
  generalize b % G = r2 at k3
  clear hGd hG0 hx hy hb0 hGl
  have key : (g = false) ∨ (g = true ∧ x = 0) ∨ (g = true ∧ x ≠ 0) := by cases g <;> simp <;> omega
  rcases key with rfl | ⟨rfl, hx0⟩ | ⟨rfl, hx0⟩
  rotate_left
  · rw [decide_eq_true hx0] at HV z
    replace hx0 := Lib.hid hx0
    go_enter Tryz.func52, Tryz.ntmps52
    go_wp2_with fail
    refine (k1 _).mono ?_
    rintro e w1 ⟨rfl, hb1⟩
    have q1 := (B3.new w false ⟨#[]⟩ ⟨#[]⟩).below hb1
    have hB1 := Lib.hid ((uniW_below w false ⟨#[]⟩ ⟨#[]⟩).trans (hb1.mono (by simp)))
    replace q1 := Lib.hid q1
    clear hb1
    go_wp2_with fail
    refine (k2 _).mono ?_
    rintro e w2 ⟨rfl, hb2⟩
    have q2 := Lib.hid (q1.out.below hb2)
    have hB2 := Lib.hid (hB1.out.trans (hb2.mono hB1.out.size))
    clear hb2 q1
    go_wp2_with fail
    refine (k3 _).mono ?_
    rintro e w3 ⟨rfl, hb3⟩
    have q3 := q2.out.below hb3
    have hB3 := Lib.hid (hB2.out.trans (hb3.mono hB2.out.size))
    obtain ⟨c1, c2, c3, c4, c5, c6⟩ := q3.facts
    have c7 := q3.lt
    replace q3 := Lib.hid q3
    clear hb3 q2
    go_wp2
    refine bodyPost_ret (v := .tuple #[.agg #[.bool false, .string (T (some x)), .string (T (some y))], .int .i64 0]) (by simp [results, Tryz.results52, go_sem, c1, c2, c3]) rfl ⟨by rw [HV.out]; rfl, ?_⟩
    repeat refine Below.setCell ?_ (by simp only []; omega) _
    first | exact hB3.out | exact hB3.out.alloc hB3.out.size _
  · rw [decide_eq_false hx0] at HV z
    replace hx0 := Lib.hid hx0
    go_enter Tryz.func52, Tryz.ntmps52
    go_wp2_with fail
    refine (k1 _).mono ?_
    rintro e w1 ⟨rfl, hb1⟩
    have q1 := (B3.new w false ⟨#[]⟩ ⟨#[]⟩).below hb1
    have hB1 := Lib.hid ((uniW_below w false ⟨#[]⟩ ⟨#[]⟩).trans (hb1.mono (by simp)))
    replace q1 := Lib.hid q1
    clear hb1
    go_wp2_with fail
    refine (k2 _).mono ?_
    rintro e w2 ⟨rfl, hb2⟩
    have q2 := Lib.hid (q1.out.below hb2)
    have hB2 := Lib.hid (hB1.out.trans (hb2.mono hB1.out.size))
    clear hb2 q1
    go_wp2_with fail
    refine (k3 _).mono ?_
    rintro e w3 ⟨rfl, hb3⟩
    have q3 := q2.out.below hb3
    have hB3 := Lib.hid (hB2.out.trans (hb3.mono hB2.out.size))
    obtain ⟨c1, c2, c3, c4, c5, c6⟩ := q3.facts
    have c7 := q3.lt
    replace q3 := Lib.hid q3
    clear hb3 q2
    go_wp2
    refine bodyPost_ret (v := .tuple #[.agg #[.bool true, .string (T (some x)), .string (T (some y))], .int .i64 0]) (by simp [results, Tryz.results52, go_sem, c1, c2, c3]) rfl ⟨by rw [HV.out]; rfl, ?_⟩
    repeat refine Below.setCell ?_ (by simp only []; omega) _
    first | exact hB3.out | exact hB3.out.alloc hB3.out.size _
  · skip
    go_enter Tryz.func52, Tryz.ntmps52
    go_wp2_with fail
    refine (k1 _).mono ?_
    rintro e w1 ⟨rfl, hb1⟩
    have q1 := (B3.new w false ⟨#[]⟩ ⟨#[]⟩).below hb1
    have hB1 := Lib.hid ((uniW_below w false ⟨#[]⟩ ⟨#[]⟩).trans (hb1.mono (by simp)))
    replace q1 := Lib.hid q1
    clear hb1
    go_wp2_with fail
    refine (k2 _).mono ?_
    rintro e w2 ⟨rfl, hb2⟩
    have q2 := Lib.hid (q1.out.below hb2)
    have hB2 := Lib.hid (hB1.out.trans (hb2.mono hB1.out.size))
    clear hb2 q1
    go_wp2_with fail
    refine (k3 _).mono ?_
    rintro e w3 ⟨rfl, hb3⟩
    have q3 := q2.out.below hb3
    have hB3 := Lib.hid (hB2.out.trans (hb3.mono hB2.out.size))
    obtain ⟨c1, c2, c3, c4, c5, c6⟩ := q3.facts
    have c7 := q3.lt
    replace q3 := Lib.hid q3
    clear hb3 q2
    go_wp2
    refine bodyPost_ret (v := .tuple #[.agg #[.bool false, .string (T (some x)), .string (T (some y))], .int .i64 0]) (by simp [results, Tryz.results52, go_sem, c1, c2, c3]) rfl ⟨by rw [HV.out]; rfl, ?_⟩
    repeat refine Below.setCell ?_ (by simp only []; omega) _
    first | exact hB3.out | exact hB3.out.alloc hB3.out.size _

set_option maxRecDepth 100000 in
theorem RRNeg_any (g : Bool) (n d : ByteArray) (w : World) :
    Calls Tryz.prog 54 #[.agg #[.bool g, .string n, .string d]] w fun e w' => e = .returned (.agg #[.bool (!g && !(n.toList == [48])), .string n, .string d]) ∧ Below w.heap.size w w' := by
  cases g with
  | true =>
    go_enter Tryz.func54, Tryz.ntmps54
    go_wp2
    refine bodyPost_ret (v := .agg #[.bool false, .string n, .string d]) (by simp [results, Tryz.results54, go_sem]) rfl ⟨rfl, ?_⟩
    repeat refine Below.setCell ?_ (by simp only []; omega) _
    exact ((Below.refl _ w).alloc (Nat.le_refl _) _).alloc (by simp) _
  | false =>
    cases hz : (n.toList == [48]) with
    | true =>
      go_enter Tryz.func54, Tryz.ntmps54
      go_wp2
      refine bodyPost_ret (v := .agg #[.bool false, .string n, .string d]) (by simp [results, Tryz.results54, go_sem]) rfl ⟨rfl, ?_⟩
      repeat refine Below.setCell ?_ (by simp only []; omega) _
      exact ((Below.refl _ w).alloc (Nat.le_refl _) _).alloc (by simp) _
    | false =>
      go_enter Tryz.func54, Tryz.ntmps54
      go_wp2
      refine bodyPost_ret (v := .agg #[.bool true, .string n, .string d]) (by simp [results, Tryz.results54, go_sem]) rfl ⟨rfl, ?_⟩
      repeat refine Below.setCell ?_ (by simp only []; omega) _
      exact ((Below.refl _ w).alloc (Nat.le_refl _) _).alloc (by simp) _
theorem RRNeg_q (q : Rat) (w : World) :
    Calls Tryz.prog 54 #[qv q] w fun e w' => e = .returned (qv (-q)) ∧ Below w.heap.size w w' := by
  have h := RRNeg_any (decide (q.num < 0)) (T (some q.num.natAbs)) (T (some q.den)) w
  rw [neg_qv] at h
  exact h

set_option maxRecDepth 100000 in
theorem RRlong_no (g : Bool) (n d : ByteArray) (w : World) (hn : n.size ≤ 140) (hd : d.size ≤ 140) :
    Calls Tryz.prog 50 #[.agg #[.bool g, .string n, .string d]] w fun e w' => e = .returned (.bool false) ∧ Below w.heap.size w w' := by
  have h1 : decide ((140 : Int) < (n.size : Int)) = false := decide_eq_false (by omega)
  have h2 : decide ((140 : Int) < (d.size : Int)) = false := decide_eq_false (by omega)
  go_enter Tryz.func50, Tryz.ntmps50
  go_wp2
  go_ret
  exact ⟨rfl, uniW_below w _ _ _⟩
set_option maxRecDepth 100000 in
theorem RRlong_yes (g : Bool) (n d : ByteArray) (w : World) (h : 140 < n.size ∨ 140 < d.size) :
    Calls Tryz.prog 50 #[.agg #[.bool g, .string n, .string d]] w fun e w' => e = .returned (.bool true) ∧ Below w.heap.size w w' := by
  have hk : decide ((140 : Int) < (n.size : Int)) = true ∨ (decide ((140 : Int) < (n.size : Int)) = false ∧ decide ((140 : Int) < (d.size : Int)) = true) := by
    simp only [decide_eq_true_eq, decide_eq_false_iff_not]
    omega
  clear h
  rcases hk with h | ⟨h1, h2⟩
  all_goals
    go_enter Tryz.func50, Tryz.ntmps50
    go_wp2
    go_ret
    exact ⟨rfl, uniW_below w _ _ _⟩

end Nt
end Go.Proofs.YtjjlnahipiinfaaGreatDoor

