/- Texts that the proof needs: RRef1, RRef2, MonRRound, LawMSplitsM, MonWrapA, MonWrapR, MonRValid, MonRFind, MonRConv, MonTextP, MonRText, MonRParse, LawMMatch. -/
import Derived.IntWalk
import Derived.BigRegion
import Derived.RegionTactic
import Derived.Test.YtpmlhgmmobpilaaGreatDoorKvA
import Derived.Test.YtpmlhgmmobpilaaGreatDoorKvB
import Derived.Test.YtpmlhgmmobpilaaGreatDoorKvC
import Derived.Test.YtpmlhgmmobpilaaGreatDoorKvD
import Derived.Test.YtpmlhgmmobpilaaGreatDoorKvE
namespace Go.Proofs.YtpmlhgmmobpilaaGreatDoor
open Go.RowKit Go.Shelf
namespace Nt
theorem rgcd (a b : Nat) (w : World) (ha : a < Lim) (hb : b < Lim) : Calls Tryz.prog 99 #[.string (T (some a)), .string (T (some b))] w fun e w' => e = .returned (.tuple #[.string (T (some (Nat.gcd a b))), .int .i64 0]) ∧ Below w.heap.size w w' := RefGcd_num a b w ha hb
theorem rdiv (a b : Nat) (w : World) (ha : a < Lim) (hb : b < Lim) (h : b ≠ 0) : Calls Tryz.prog 100 #[.string (T (some a)), .string (T (some b))] w fun e w' => e = .returned (.tuple #[.string (T (some (a / b))), .string (T (some (a % b))), .int .i64 0]) ∧ Below w.heap.size w w' := RefDiv_num a b w ha hb h
theorem radd (a b : Nat) (w : World) (ha : a < Lim) (hb : b < Lim) (h : a + b < Lim) : Calls Tryz.prog 102 #[.string (T (some a)), .string (T (some b))] w fun e w' => e = .returned (.tuple #[.string (T (some (a + b))), .int .i64 0]) ∧ Below w.heap.size w w' := by
  have := RefAdd_num a b w ha hb (by have := lim_size h; omega)
  unfold strL errL at this
  rw [if_pos h, if_pos h] at this
  exact this
theorem rmul (a b : Nat) (w : World) (ha : a < Lim) (hb : b < Lim) (h : a * b < Lim) : Calls Tryz.prog 124 #[.string (T (some a)), .string (T (some b))] w fun e w' => e = .returned (.tuple #[.string (T (some (a * b))), .int .i64 0]) ∧ Below w.heap.size w w' := by
  have := RefMul_num a b w ha hb (by have := lim_size h; omega)
  unfold strL errL at this
  rw [if_pos h, if_pos h] at this
  exact this
theorem rsub (a b : Nat) (w : World) (ha : a < Lim) (hb : b < Lim) (h : b ≤ a) : Calls Tryz.prog 103 #[.string (T (some a)), .string (T (some b))] w fun e w' => e = .returned (.tuple #[.string (T (some (a - b))), .int .i64 0]) ∧ Below w.heap.size w w' := RefSub_num a b w ha hb h
theorem rcmp (a b : Nat) (w : World) (ha : a < Lim) (hb : b < Lim) : Calls Tryz.prog 142 #[.string (T (some a)), .string (T (some b))] w fun e w' => e = .returned (.tuple #[.int .i64 (cmpN a b), .int .i64 0]) ∧ Below w.heap.size w w' := RefCompare_num a b w ha hb
theorem ris (s : ByteArray) (b : Bool) (h : isN s = b) (w : World) (hs : s.size ≤ 140737488355328) : Calls Tryz.prog 98 #[.string s] w fun e w' => e = .returned (.bool b) ∧ w = w' := by
  have := RefIs_any s w hs
  rwa [h] at this
set_option maxRecDepth 100000 in
set_option maxHeartbeats 1000000 in
theorem RRValid_bad1 (g : Bool) (n d : ByteArray) (w : World) (hn : n.size ≤ 140737488355328) (h : isN n = false) :
    Calls Tryz.prog 47 #[.agg #[.bool g, .string n, .string d]] w fun e w' => e = .returned (.bool false) ∧ Below w.heap.size w w' := by
  replace h := Lib.hid h
  go_enter Tryz.func47, Tryz.ntmps47
  go_wp2_with fail
  refine (ris n false h.out _ hn).mono ?_
  rintro e w1 ⟨rfl, rfl⟩
  go_wp2
  go_ret
  exact ⟨rfl, uniW_below w _ _ _⟩
set_option maxRecDepth 100000 in
set_option maxHeartbeats 1000000 in
theorem RRValid_bad2 (g : Bool) (n d : ByteArray) (w : World) (hn : n.size ≤ 140737488355328) (hd : d.size ≤ 140737488355328) (h : isN n = true) (h2 : isN d = false) :
    Calls Tryz.prog 47 #[.agg #[.bool g, .string n, .string d]] w fun e w' => e = .returned (.bool false) ∧ Below w.heap.size w w' := by
  replace h := Lib.hid h
  replace h2 := Lib.hid h2
  go_enter Tryz.func47, Tryz.ntmps47
  go_wp2_with fail
  refine (ris n true h.out _ hn).mono ?_
  rintro e w1 ⟨rfl, rfl⟩
  go_wp2_with fail
  refine (ris d false h2.out _ hd).mono ?_
  rintro e w1 ⟨rfl, rfl⟩
  go_wp2
  go_ret
  exact ⟨rfl, uniW_below w _ _ _⟩
set_option maxRecDepth 100000 in
set_option maxHeartbeats 1000000 in
theorem RRValid_zden (g : Bool) (a : Nat) (w : World) (ha : a < Lim) :
    Calls Tryz.prog 47 #[.agg #[.bool g, .string (T (some a)), .string (T (some 0))]] w fun e w' => e = .returned (.bool false) ∧ Below w.heap.size w w' := by
  have hb : 0 < Lim := by omega
  have ia := Lib.hid (isN_T (ok_some ha))
  have za := Lib.hid (size_T (ok_some ha))
  have ib := Lib.hid (isN_T (ok_some hb))
  have zb := Lib.hid (size_T (ok_some hb))
  have z := T_is_zero 0
  rw [decide_eq_true rfl] at z
  go_enter Tryz.func47, Tryz.ntmps47
  go_wp2_with fail
  refine (ris _ true ia.out _ za.out).mono ?_
  rintro e w1 ⟨rfl, rfl⟩
  go_wp2_with fail
  refine (ris _ true ib.out _ zb.out).mono ?_
  rintro e w1 ⟨rfl, rfl⟩
  go_wp2
  go_ret
  exact ⟨rfl, uniW_below w _ _ _⟩
set_option maxRecDepth 100000 in
set_option maxHeartbeats 1000000 in
theorem RRValid_neg0 (b : Nat) (w : World) (hb : b < Lim) (hb0 : b ≠ 0) :
    Calls Tryz.prog 47 #[.agg #[.bool true, .string (T (some 0)), .string (T (some b))]] w fun e w' => e = .returned (.bool false) ∧ Below w.heap.size w w' := by
  have ha : 0 < Lim := by omega
  have ia := Lib.hid (isN_T (ok_some ha))
  have za := Lib.hid (size_T (ok_some ha))
  have ib := Lib.hid (isN_T (ok_some hb))
  have zb := Lib.hid (size_T (ok_some hb))
  have z := T_is_zero 0
  rw [decide_eq_true rfl] at z
  have z2 := T_is_zero b
  rw [decide_eq_false hb0] at z2
  replace hb0 := Lib.hid hb0
  go_enter Tryz.func47, Tryz.ntmps47
  go_wp2_with fail
  refine (ris _ true ia.out _ za.out).mono ?_
  rintro e w1 ⟨rfl, rfl⟩
  go_wp2_with fail
  refine (ris _ true ib.out _ zb.out).mono ?_
  rintro e w1 ⟨rfl, rfl⟩
  go_wp2
  go_ret
  exact ⟨rfl, uniW_below w _ _ _⟩
set_option maxRecDepth 100000 in
set_option maxHeartbeats 1000000 in
theorem RRValid_gcd_f (a b : Nat) (w : World) (ha : a < Lim) (hb : b < Lim) (hb0 : b ≠ 0) :
    Calls Tryz.prog 47 #[.agg #[.bool false, .string (T (some a)), .string (T (some b))]] w fun e w' => e = .returned (.bool (decide (Nat.gcd a b = 1))) ∧ Below w.heap.size w w' := by
  have ia := Lib.hid (isN_T (ok_some ha))
  have za := Lib.hid (size_T (ok_some ha))
  have ib := Lib.hid (isN_T (ok_some hb))
  have zb := Lib.hid (size_T (ok_some hb))
  have z2 := T_is_zero b
  rw [decide_eq_false hb0] at z2
  have z3 := T_is_one (Nat.gcd a b)
  replace hb0 := Lib.hid hb0
  go_enter Tryz.func47, Tryz.ntmps47
  go_wp2_with fail
  refine (ris _ true ia.out _ za.out).mono ?_
  rintro e w1 ⟨rfl, rfl⟩
  go_wp2_with fail
  refine (ris _ true ib.out _ zb.out).mono ?_
  rintro e w1 ⟨rfl, rfl⟩
  go_wp2_with fail
  refine (rgcd a b _ ha hb).mono ?_
  rintro e w1 ⟨rfl, hb1⟩
  have hB1 := Lib.hid ((uniW_below w false (T (some a)) (T (some b))).trans (hb1.mono (by simp)))
  clear hb1
  go_wp2
  go_ret
  exact ⟨rfl, hB1.out⟩
set_option maxRecDepth 100000 in
set_option maxHeartbeats 1000000 in
theorem RRValid_gcd_t (a b : Nat) (w : World) (ha : a < Lim) (hb : b < Lim) (hb0 : b ≠ 0) (ha0 : a ≠ 0) :
    Calls Tryz.prog 47 #[.agg #[.bool true, .string (T (some a)), .string (T (some b))]] w fun e w' => e = .returned (.bool (decide (Nat.gcd a b = 1))) ∧ Below w.heap.size w w' := by
  have ia := Lib.hid (isN_T (ok_some ha))
  have za := Lib.hid (size_T (ok_some ha))
  have ib := Lib.hid (isN_T (ok_some hb))
  have zb := Lib.hid (size_T (ok_some hb))
  have z2 := T_is_zero b
  rw [decide_eq_false hb0] at z2
  have z3 := T_is_one (Nat.gcd a b)
  replace hb0 := Lib.hid hb0
  have z := T_is_zero a
  rw [decide_eq_false ha0] at z
  replace ha0 := Lib.hid ha0
  go_enter Tryz.func47, Tryz.ntmps47
  go_wp2_with fail
  refine (ris _ true ia.out _ za.out).mono ?_
  rintro e w1 ⟨rfl, rfl⟩
  go_wp2_with fail
  refine (ris _ true ib.out _ zb.out).mono ?_
  rintro e w1 ⟨rfl, rfl⟩
  go_wp2_with fail
  refine (rgcd a b _ ha hb).mono ?_
  rintro e w1 ⟨rfl, hb1⟩
  have hB1 := Lib.hid ((uniW_below w true (T (some a)) (T (some b))).trans (hb1.mono (by simp)))
  clear hb1
  go_wp2
  go_ret
  exact ⟨rfl, hB1.out⟩
theorem RRValid_any (g : Bool) (n d : ByteArray) (w : World) (hn : n.size ≤ 140737488355328) (hd : d.size ≤ 140737488355328) :
    Calls Tryz.prog 47 #[.agg #[.bool g, .string n, .string d]] w fun e w' => e = .returned (.bool (validB g n d)) ∧ Below w.heap.size w w' := by
  cases h1 : isN n with
  | false =>
    have e : validB g n d = false := by unfold validB; rw [h1]; rfl
    rw [e]
    exact RRValid_bad1 g n d w hn h1
  | true =>
    cases h2 : isN d with
    | false =>
      have e : validB g n d = false := by unfold validB; rw [h1, h2]; rfl
      rw [e]
      exact RRValid_bad2 g n d w hn hd h1 h2
    | true =>
      obtain ⟨a, ha, rfl⟩ := num_of_isN h1
      obtain ⟨b, hb, rfl⟩ := num_of_isN h2
      rw [valid_num g a b ha hb]
      by_cases hb0 : b = 0
      · subst hb0
        simp only [decide_true, Bool.not_true, Bool.false_and]
        exact RRValid_zden g a w ha
      · rw [decide_eq_false hb0, Bool.not_false, Bool.true_and]
        by_cases ha0 : a = 0
        · rw [if_pos ha0]
          subst ha0
          cases g with
          | true => exact RRValid_neg0 b w hb hb0
          | false =>
            have e : (!false && decide (b = 1)) = decide (Nat.gcd 0 b = 1) := by
              rw [Bool.not_false, Bool.true_and]
              exact decide_eq_decide.2 (by rw [Nat.gcd_zero_left])
            rw [e]
            exact RRValid_gcd_f 0 b w ha hb hb0
        · rw [if_neg ha0]
          cases g with
          | true => exact RRValid_gcd_t a b w ha hb hb0 ha0
          | false => exact RRValid_gcd_f a b w ha hb hb0
set_option maxRecDepth 100000 in
set_option maxHeartbeats 1000000 in
theorem RRreduce_any (g : Bool) (a b : Nat) (w : World) (ha : a < Lim) (hb : b < Lim) (hb0 : b ≠ 0) :
    Calls Tryz.prog 104 #[.bool g, .string (T (some a)), .string (T (some b))] w fun e w' => e = .returned (.tuple #[qv (mkRat (sg g a) b), .int .i64 0]) ∧ Below w.heap.size w w' := by
  have HV := Lib.hid (qv_mk g a b hb0)
  obtain ⟨G, hGd⟩ : ∃ G, G = Nat.gcd a b := ⟨_, rfl⟩
  have hGl : G < Lim := by rw [hGd]; exact gcd_ltL ha hb
  have hG0 : G ≠ 0 := by rw [hGd]; exact Nat.ne_of_gt (Nat.gcd_pos_of_pos_right a (by omega))
  have k1 := fun W => rgcd a b W ha hb
  rw [← hGd] at HV k1
  have k2 := fun W => rdiv a G W ha hGl hG0
  have k3 := fun W => rdiv b G W hb hGl hG0
  have z := T_is_zero (a / G)
  generalize hx : a / G = x at HV k2 z
  generalize hy : b / G = y at HV k3
  generalize a % G = r1 at k2
  generalize b % G = r2 at k3
  clear hGd hG0 hx hy hb0 hGl
  have key : (g = false) ∨ (g = true ∧ x = 0) ∨ (g = true ∧ x ≠ 0) := by cases g <;> simp <;> omega
  rcases key with rfl | ⟨rfl, hx0⟩ | ⟨rfl, hx0⟩
  rotate_left
  · rw [decide_eq_true hx0] at HV z
    replace hx0 := Lib.hid hx0
    go_enter Tryz.func104, Tryz.ntmps104
    go_wp2_with fail
    refine (k1 _).mono ?_
    rintro e w1 ⟨rfl, hb1⟩
    have q1 := (B3.new w false ⟨#[]⟩ ⟨#[]⟩).below hb1
    have hB1 := Lib.hid ((uniW_below w false ⟨#[]⟩ ⟨#[]⟩).trans (hb1.mono (by simp)))
    replace q1 := Lib.hid q1
    clear hb1
    go_wp2_with fail
    refine (k2 _).mono ?_
    rintro e w2 ⟨rfl, hb2⟩
    have q2 := Lib.hid (q1.out.below hb2)
    have hB2 := Lib.hid (hB1.out.trans (hb2.mono hB1.out.size))
    clear hb2 q1
    go_wp2_with fail
    refine (k3 _).mono ?_
    rintro e w3 ⟨rfl, hb3⟩
    have q3 := q2.out.below hb3
    have hB3 := Lib.hid (hB2.out.trans (hb3.mono hB2.out.size))
    obtain ⟨c1, c2, c3, c4, c5, c6⟩ := q3.facts
    have c7 := q3.lt
    replace q3 := Lib.hid q3
    clear hb3 q2
    go_wp2
    refine bodyPost_ret (v := .tuple #[.agg #[.bool false, .string (T (some x)), .string (T (some y))], .int .i64 0]) (by simp [results, Tryz.results104, go_sem, c1, c2, c3]) rfl ⟨by rw [HV.out]; rfl, ?_⟩
    repeat refine Below.setCell ?_ (by simp only []; omega) _
    first | exact hB3.out | exact hB3.out.alloc hB3.out.size _
  · rw [decide_eq_false hx0] at HV z
    replace hx0 := Lib.hid hx0
    go_enter Tryz.func104, Tryz.ntmps104
    go_wp2_with fail
    refine (k1 _).mono ?_
    rintro e w1 ⟨rfl, hb1⟩
    have q1 := (B3.new w false ⟨#[]⟩ ⟨#[]⟩).below hb1
    have hB1 := Lib.hid ((uniW_below w false ⟨#[]⟩ ⟨#[]⟩).trans (hb1.mono (by simp)))
    replace q1 := Lib.hid q1
    clear hb1
    go_wp2_with fail
    refine (k2 _).mono ?_
    rintro e w2 ⟨rfl, hb2⟩
    have q2 := Lib.hid (q1.out.below hb2)
    have hB2 := Lib.hid (hB1.out.trans (hb2.mono hB1.out.size))
    clear hb2 q1
    go_wp2_with fail
    refine (k3 _).mono ?_
    rintro e w3 ⟨rfl, hb3⟩
    have q3 := q2.out.below hb3
    have hB3 := Lib.hid (hB2.out.trans (hb3.mono hB2.out.size))
    obtain ⟨c1, c2, c3, c4, c5, c6⟩ := q3.facts
    have c7 := q3.lt
    replace q3 := Lib.hid q3
    clear hb3 q2
    go_wp2
    refine bodyPost_ret (v := .tuple #[.agg #[.bool true, .string (T (some x)), .string (T (some y))], .int .i64 0]) (by simp [results, Tryz.results104, go_sem, c1, c2, c3]) rfl ⟨by rw [HV.out]; rfl, ?_⟩
    repeat refine Below.setCell ?_ (by simp only []; omega) _
    first | exact hB3.out | exact hB3.out.alloc hB3.out.size _
  · skip
    go_enter Tryz.func104, Tryz.ntmps104
    go_wp2_with fail
    refine (k1 _).mono ?_
    rintro e w1 ⟨rfl, hb1⟩
    have q1 := (B3.new w false ⟨#[]⟩ ⟨#[]⟩).below hb1
    have hB1 := Lib.hid ((uniW_below w false ⟨#[]⟩ ⟨#[]⟩).trans (hb1.mono (by simp)))
    replace q1 := Lib.hid q1
    clear hb1
    go_wp2_with fail
    refine (k2 _).mono ?_
    rintro e w2 ⟨rfl, hb2⟩
    have q2 := Lib.hid (q1.out.below hb2)
    have hB2 := Lib.hid (hB1.out.trans (hb2.mono hB1.out.size))
    clear hb2 q1
    go_wp2_with fail
    refine (k3 _).mono ?_
    rintro e w3 ⟨rfl, hb3⟩
    have q3 := q2.out.below hb3
    have hB3 := Lib.hid (hB2.out.trans (hb3.mono hB2.out.size))
    obtain ⟨c1, c2, c3, c4, c5, c6⟩ := q3.facts
    have c7 := q3.lt
    replace q3 := Lib.hid q3
    clear hb3 q2
    go_wp2
    refine bodyPost_ret (v := .tuple #[.agg #[.bool false, .string (T (some x)), .string (T (some y))], .int .i64 0]) (by simp [results, Tryz.results104, go_sem, c1, c2, c3]) rfl ⟨by rw [HV.out]; rfl, ?_⟩
    repeat refine Below.setCell ?_ (by simp only []; omega) _
    first | exact hB3.out | exact hB3.out.alloc hB3.out.size _
set_option maxRecDepth 100000 in
set_option maxHeartbeats 1000000 in
theorem RRsize_any (n : Int) (h0 : -9223372036854775808 ≤ n) (h1 : n ≤ 9223372036854775807) (w : World) :
    Calls Tryz.prog 105 #[.int .i64 n] w fun e w' => e = .returned (.string (T (some n.natAbs))) ∧ Below w.heap.size w w' := by
  by_cases hn : 0 ≤ n
  · have c := RefOf_any n w h0 h1
    have e : ofS n = T (some n.natAbs) := by
      unfold ofS
      rw [if_neg (by omega), show n.toNat = n.natAbs by omega]
      rfl
    rw [e] at c
    clear e
    go_enter Tryz.func105, Tryz.ntmps105
    go_wp2_with fail
    refine c.mono ?_
    rintro e w1 ⟨rfl, rfl⟩
    go_wp2
    go_ret
    exact ⟨rfl, Below.refl _ _⟩
  · have c := fun W => RefOf_any (-(n + 1)) W (by omega) (by omega)
    have e : ofS (-(n + 1)) = T (some (n.natAbs - 1)) := by
      unfold ofS
      rw [if_neg (by omega), show (-(n + 1)).toNat = n.natAbs - 1 by omega]
      rfl
    rw [e] at c
    clear e
    have hl : n.natAbs < Lim := L1_lim (int_abs_lim h0 h1)
    have d := fun W => radd (n.natAbs - 1) 1 W (by omega) (by omega) (by omega)
    rw [T_one, show n.natAbs - 1 + 1 = n.natAbs by omega] at d
    have hn' : n < 0 := by omega
    generalize T (some (n.natAbs - 1)) = s at *
    generalize T (some n.natAbs) = t at *
    clear hl hn
    go_enter Tryz.func105, Tryz.ntmps105
    go_wp2_with fail
    refine (c _).mono ?_
    rintro e w1 ⟨rfl, rfl⟩
    go_wp2_with fail
    refine (d _).mono ?_
    rintro e w1 ⟨rfl, hb⟩
    replace hb := Lib.hid hb
    go_wp2
    go_ret
    exact ⟨rfl, hb.out⟩
set_option maxRecDepth 100000 in
set_option maxHeartbeats 1000000 in
theorem RROf_w (m n : Int) (hm0 : -9223372036854775808 ≤ m) (hm1 : m ≤ 9223372036854775807) (hn0 : -9223372036854775808 ≤ n) (hn1 : n ≤ 9223372036854775807) (h0 : n ≠ 0) (r : Bool) (x y : ByteArray) (w : World)
    (hl : ∀ W, Calls Tryz.prog 104 #[.bool (!(decide (m < 0) == decide (n < 0))), .string (T (some m.natAbs)), .string (T (some n.natAbs))] W fun e w' => e = .returned (.tuple #[.agg #[.bool r, .string x, .string y], .int .i64 0]) ∧ Below W.heap.size W w') :
    Calls Tryz.prog 49 #[.int .i64 m, .int .i64 n] w fun e w' => e = .returned (.tuple #[.agg #[.bool r, .string x, .string y], .int .i64 0]) ∧ Below w.heap.size w w' := by
  have hz : (n == 0) = false := by rw [beq_eq_false_iff_ne]; exact h0
  have c1 := fun W => RRsize_any m hm0 hm1 W
  have c2 := fun W => RRsize_any n hn0 hn1 W
  replace hl := Lib.hid hl
  replace h0 := Lib.hid h0
  clear hm0 hm1 hn0 hn1
  go_enter Tryz.func49, Tryz.ntmps49
  go_wp2_with fail
  refine (c1 _).mono ?_
  rintro e w1 ⟨rfl, hb1⟩
  have q1 := (B3.new w false ⟨#[]⟩ ⟨#[]⟩).below hb1
  have hB1 := Lib.hid ((one_below w (.cells #[.bool false, .string ⟨#[]⟩, .string ⟨#[]⟩] 23)).trans (hb1.mono (by simp)))
  clear hb1
  replace q1 := Lib.hid q1
  go_wp2_with fail
  refine (c2 _).mono ?_
  rintro e w2 ⟨rfl, hb2⟩
  have q2 := q1.out.below hb2
  have hB2 := Lib.hid (hB1.out.trans (hb2.mono hB1.out.size))
  clear hb2
  replace q2 := Lib.hid q2
  go_wp2_with fail
  refine (hl.out _).mono ?_
  rintro e w3 ⟨rfl, hb3⟩
  have q3 := q2.out.below hb3
  have hB3 := Lib.hid (hB2.out.trans (hb3.mono hB2.out.size))
  obtain ⟨d1, d2, d3, d4, d5, d6⟩ := q3.facts
  have hz3 := q3.lt
  clear hb3
  replace q3 := Lib.hid q3
  go_wp2
  refine bodyPost_ret (v := .tuple #[.agg #[.bool r, .string x, .string y], .int .i64 0]) (by simp [results, Tryz.results49, go_sem, d1, d2, d3]) rfl ⟨rfl, ?_⟩
  repeat refine Below.setCell ?_ (by simp only []; omega) _
  exact hB3.out
theorem RROf_any (m n : Int) (hm0 : -9223372036854775808 ≤ m) (hm1 : m ≤ 9223372036854775807) (hn0 : -9223372036854775808 ≤ n) (hn1 : n ≤ 9223372036854775807) (h0 : n ≠ 0) (w : World) :
    Calls Tryz.prog 49 #[.int .i64 m, .int .i64 n] w fun e w' => e = .returned (.tuple #[qv (ofQ m n), .int .i64 0]) ∧ Below w.heap.size w w' :=
  RROf_w m n hm0 hm1 hn0 hn1 h0 _ _ _ w fun W => RRreduce_any _ m.natAbs n.natAbs W (L1_lim (int_abs_lim hm0 hm1)) (L1_lim (int_abs_lim hn0 hn1)) (by omega)
set_option maxRecDepth 100000 in
theorem RRNeg_any (g : Bool) (n d : ByteArray) (w : World) :
    Calls Tryz.prog 107 #[.agg #[.bool g, .string n, .string d]] w fun e w' => e = .returned (.agg #[.bool (!g && !(n.toList == [48])), .string n, .string d]) ∧ Below w.heap.size w w' := by
  cases g with
  | true =>
    go_enter Tryz.func107, Tryz.ntmps107
    go_wp2
    refine bodyPost_ret (v := .agg #[.bool false, .string n, .string d]) (by simp [results, Tryz.results107, go_sem]) rfl ⟨rfl, ?_⟩
    repeat refine Below.setCell ?_ (by simp only []; omega) _
    exact ((Below.refl _ w).alloc (Nat.le_refl _) _).alloc (by simp) _
  | false =>
    cases hz : (n.toList == [48]) with
    | true =>
      go_enter Tryz.func107, Tryz.ntmps107
      go_wp2
      refine bodyPost_ret (v := .agg #[.bool false, .string n, .string d]) (by simp [results, Tryz.results107, go_sem]) rfl ⟨rfl, ?_⟩
      repeat refine Below.setCell ?_ (by simp only []; omega) _
      exact ((Below.refl _ w).alloc (Nat.le_refl _) _).alloc (by simp) _
    | false =>
      go_enter Tryz.func107, Tryz.ntmps107
      go_wp2
      refine bodyPost_ret (v := .agg #[.bool true, .string n, .string d]) (by simp [results, Tryz.results107, go_sem]) rfl ⟨rfl, ?_⟩
      repeat refine Below.setCell ?_ (by simp only []; omega) _
      exact ((Below.refl _ w).alloc (Nat.le_refl _) _).alloc (by simp) _
theorem RRNeg_q (q : Rat) (w : World) :
    Calls Tryz.prog 107 #[qv q] w fun e w' => e = .returned (qv (-q)) ∧ Below w.heap.size w w' := by
  have h := RRNeg_any (decide (q.num < 0)) (T (some q.num.natAbs)) (T (some q.den)) w
  rw [neg_qv] at h
  exact h
set_option maxRecDepth 100000 in
theorem RRlong_no (g : Bool) (n d : ByteArray) (w : World) (hn : n.size ≤ 140) (hd : d.size ≤ 140) :
    Calls Tryz.prog 123 #[.agg #[.bool g, .string n, .string d]] w fun e w' => e = .returned (.bool false) ∧ Below w.heap.size w w' := by
  have h1 : decide ((140 : Int) < (n.size : Int)) = false := decide_eq_false (by omega)
  have h2 : decide ((140 : Int) < (d.size : Int)) = false := decide_eq_false (by omega)
  go_enter Tryz.func123, Tryz.ntmps123
  go_wp2
  go_ret
  exact ⟨rfl, uniW_below w _ _ _⟩
end Nt
end Go.Proofs.YtpmlhgmmobpilaaGreatDoor

namespace Go.Proofs.YtpmlhgmmobpilaaGreatDoor
open Go.RowKit Go.Shelf
namespace Nt
set_option maxRecDepth 100000 in
set_option maxHeartbeats 2000000 in
theorem RRAdd_same (g1 : Bool) (n1 d1 n2 d2 : ByteArray) (x y z s : ByteArray) (r : Bool) (n d : ByteArray) (E : Int) (w : World)
    (v1 : ∀ W, Calls Tryz.prog 47 #[.agg #[.bool g1, .string n1, .string d1]] W fun e w' => e = .returned (.bool true) ∧ Below W.heap.size W w')
    (v2 : ∀ W, Calls Tryz.prog 47 #[.agg #[.bool g1, .string n2, .string d2]] W fun e w' => e = .returned (.bool true) ∧ Below W.heap.size W w')
    (l1 : ∀ W, Calls Tryz.prog 123 #[.agg #[.bool g1, .string n1, .string d1]] W fun e w' => e = .returned (.bool false) ∧ Below W.heap.size W w')
    (l2 : ∀ W, Calls Tryz.prog 123 #[.agg #[.bool g1, .string n2, .string d2]] W fun e w' => e = .returned (.bool false) ∧ Below W.heap.size W w')
    (mx : ∀ W, Calls Tryz.prog 124 #[.string n1, .string d2] W fun e w' => e = .returned (.tuple #[.string x, .int .i64 0]) ∧ Below W.heap.size W w')
    (my : ∀ W, Calls Tryz.prog 124 #[.string n2, .string d1] W fun e w' => e = .returned (.tuple #[.string y, .int .i64 0]) ∧ Below W.heap.size W w')
    (mz : ∀ W, Calls Tryz.prog 124 #[.string d1, .string d2] W fun e w' => e = .returned (.tuple #[.string z, .int .i64 0]) ∧ Below W.heap.size W w')
    (ks : ∀ W, Calls Tryz.prog 102 #[.string x, .string y] W fun e w' => e = .returned (.tuple #[.string s, .int .i64 0]) ∧ Below W.heap.size W w')
    (kr : ∀ W, Calls Tryz.prog 104 #[.bool g1, .string s, .string z] W fun e w' => e = .returned (.tuple #[.agg #[.bool r, .string n, .string d], .int .i64 E]) ∧ Below W.heap.size W w') :
    Calls Tryz.prog 106 #[.agg #[.bool g1, .string n1, .string d1], .agg #[.bool g1, .string n2, .string d2]] w fun e w' => e = .returned (.tuple #[.agg #[.bool r, .string n, .string d], .int .i64 E]) ∧ Below w.heap.size w w' := by
  have q0 := Lib.hid (TwoBoxes.new w g1 g1 n1 d1 n2 d2)
  have hB0 := Lib.hid (twoW_below w g1 g1 n1 d1 n2 d2)
  replace v1 := Lib.hid v1
  replace v2 := Lib.hid v2
  replace l1 := Lib.hid l1
  replace l2 := Lib.hid l2
  replace mx := Lib.hid mx
  replace my := Lib.hid my
  replace mz := Lib.hid mz
  replace ks := Lib.hid ks
  replace kr := Lib.hid kr
  go_enter Tryz.func106, Tryz.ntmps106
  go_wp2_with fail
  refine (v1.out _).mono ?_
  rintro e w1 ⟨rfl, hb⟩
  have q1 := q0.out.below hb
  have hB1 := Lib.hid (hB0.out.trans (hb.mono hB0.out.size))
  clear hb
  obtain ⟨a1, a2, a3, a4, a5, a6⟩ := q1.1.facts
  obtain ⟨b1, b2, b3, b4, b5, b6⟩ := q1.2.1.facts
  obtain ⟨c1, c2, c3, c4, c5, c6⟩ := q1.2.2.facts
  have c7 := q1.2.2.lt
  replace q1 := Lib.hid q1
  go_wp2_with fail
  refine (v2.out _).mono ?_
  rintro e w2 ⟨rfl, hb⟩
  have q2 := q1.out.below hb
  have hB2 := Lib.hid (hB1.out.trans (hb.mono hB1.out.size))
  clear a1 a2 a3 a4 a5 a6 b1 b2 b3 b4 b5 b6 c1 c2 c3 c4 c5 c6 c7
  clear hb
  obtain ⟨a1, a2, a3, a4, a5, a6⟩ := q2.1.facts
  obtain ⟨b1, b2, b3, b4, b5, b6⟩ := q2.2.1.facts
  obtain ⟨c1, c2, c3, c4, c5, c6⟩ := q2.2.2.facts
  have c7 := q2.2.2.lt
  replace q2 := Lib.hid q2
  go_wp2_with fail
  refine (l1.out _).mono ?_
  rintro e w3 ⟨rfl, hb⟩
  have q3 := q2.out.below hb
  have hB3 := Lib.hid (hB2.out.trans (hb.mono hB2.out.size))
  clear a1 a2 a3 a4 a5 a6 b1 b2 b3 b4 b5 b6 c1 c2 c3 c4 c5 c6 c7
  clear hb
  obtain ⟨a1, a2, a3, a4, a5, a6⟩ := q3.1.facts
  obtain ⟨b1, b2, b3, b4, b5, b6⟩ := q3.2.1.facts
  obtain ⟨c1, c2, c3, c4, c5, c6⟩ := q3.2.2.facts
  have c7 := q3.2.2.lt
  replace q3 := Lib.hid q3
  go_wp2_with fail
  refine (l2.out _).mono ?_
  rintro e w4 ⟨rfl, hb⟩
  have q4 := q3.out.below hb
  have hB4 := Lib.hid (hB3.out.trans (hb.mono hB3.out.size))
  clear a1 a2 a3 a4 a5 a6 b1 b2 b3 b4 b5 b6 c1 c2 c3 c4 c5 c6 c7
  clear hb
  obtain ⟨a1, a2, a3, a4, a5, a6⟩ := q4.1.facts
  obtain ⟨b1, b2, b3, b4, b5, b6⟩ := q4.2.1.facts
  obtain ⟨c1, c2, c3, c4, c5, c6⟩ := q4.2.2.facts
  have c7 := q4.2.2.lt
  replace q4 := Lib.hid q4
  go_wp2_with fail
  refine (mx.out _).mono ?_
  rintro e w5 ⟨rfl, hb⟩
  have q5 := q4.out.below hb
  have hB5 := Lib.hid (hB4.out.trans (hb.mono hB4.out.size))
  clear a1 a2 a3 a4 a5 a6 b1 b2 b3 b4 b5 b6 c1 c2 c3 c4 c5 c6 c7
  clear hb
  obtain ⟨a1, a2, a3, a4, a5, a6⟩ := q5.1.facts
  obtain ⟨b1, b2, b3, b4, b5, b6⟩ := q5.2.1.facts
  obtain ⟨c1, c2, c3, c4, c5, c6⟩ := q5.2.2.facts
  have c7 := q5.2.2.lt
  replace q5 := Lib.hid q5
  go_wp2_with fail
  refine (my.out _).mono ?_
  rintro e w6 ⟨rfl, hb⟩
  have q6 := q5.out.below hb
  have hB6 := Lib.hid (hB5.out.trans (hb.mono hB5.out.size))
  clear a1 a2 a3 a4 a5 a6 b1 b2 b3 b4 b5 b6 c1 c2 c3 c4 c5 c6 c7
  clear hb
  obtain ⟨a1, a2, a3, a4, a5, a6⟩ := q6.1.facts
  obtain ⟨b1, b2, b3, b4, b5, b6⟩ := q6.2.1.facts
  obtain ⟨c1, c2, c3, c4, c5, c6⟩ := q6.2.2.facts
  have c7 := q6.2.2.lt
  replace q6 := Lib.hid q6
  go_wp2_with fail
  refine (mz.out _).mono ?_
  rintro e w7 ⟨rfl, hb⟩
  have q7 := q6.out.below hb
  have hB7 := Lib.hid (hB6.out.trans (hb.mono hB6.out.size))
  clear a1 a2 a3 a4 a5 a6 b1 b2 b3 b4 b5 b6 c1 c2 c3 c4 c5 c6 c7
  clear hb
  obtain ⟨a1, a2, a3, a4, a5, a6⟩ := q7.1.facts
  obtain ⟨b1, b2, b3, b4, b5, b6⟩ := q7.2.1.facts
  obtain ⟨c1, c2, c3, c4, c5, c6⟩ := q7.2.2.facts
  have c7 := q7.2.2.lt
  replace q7 := Lib.hid q7
  go_wp2_with fail
  refine (ks.out _).mono ?_
  rintro e w8 ⟨rfl, hb⟩
  have q8 := q7.out.below hb
  have hB8 := Lib.hid (hB7.out.trans (hb.mono hB7.out.size))
  clear a1 a2 a3 a4 a5 a6 b1 b2 b3 b4 b5 b6 c1 c2 c3 c4 c5 c6 c7
  clear hb
  obtain ⟨a1, a2, a3, a4, a5, a6⟩ := q8.1.facts
  obtain ⟨b1, b2, b3, b4, b5, b6⟩ := q8.2.1.facts
  obtain ⟨c1, c2, c3, c4, c5, c6⟩ := q8.2.2.facts
  have c7 := q8.2.2.lt
  replace q8 := Lib.hid q8
  go_wp2_with fail
  refine (kr.out _).mono ?_
  rintro e w9 ⟨rfl, hb⟩
  have q9 := q8.out.below hb
  have hB9 := Lib.hid (hB8.out.trans (hb.mono hB8.out.size))
  clear a1 a2 a3 a4 a5 a6 b1 b2 b3 b4 b5 b6 c1 c2 c3 c4 c5 c6 c7
  clear hb
  obtain ⟨a1, a2, a3, a4, a5, a6⟩ := q9.1.facts
  obtain ⟨b1, b2, b3, b4, b5, b6⟩ := q9.2.1.facts
  obtain ⟨c1, c2, c3, c4, c5, c6⟩ := q9.2.2.facts
  have c7 := q9.2.2.lt
  replace q9 := Lib.hid q9
  go_wp2
  refine bodyPost_ret (v := .tuple #[.agg #[.bool r, .string n, .string d], .int .i64 E]) (by simp [results, Tryz.results106, go_sem, c1, c2, c3]) rfl ⟨rfl, ?_⟩
  repeat refine Below.setCell ?_ (by simp only []; omega) _
  exact hB9.out
set_option maxRecDepth 100000 in
set_option maxHeartbeats 2000000 in
theorem RRAdd_less (g1 g2 : Bool) (n1 d1 n2 d2 : ByteArray) (x y z s : ByteArray) (r : Bool) (n d : ByteArray) (E : Int) (c : Int) (hc : c < 0) (hg : (g1 == g2) = false) (w : World)
    (v1 : ∀ W, Calls Tryz.prog 47 #[.agg #[.bool g1, .string n1, .string d1]] W fun e w' => e = .returned (.bool true) ∧ Below W.heap.size W w')
    (v2 : ∀ W, Calls Tryz.prog 47 #[.agg #[.bool g2, .string n2, .string d2]] W fun e w' => e = .returned (.bool true) ∧ Below W.heap.size W w')
    (l1 : ∀ W, Calls Tryz.prog 123 #[.agg #[.bool g1, .string n1, .string d1]] W fun e w' => e = .returned (.bool false) ∧ Below W.heap.size W w')
    (l2 : ∀ W, Calls Tryz.prog 123 #[.agg #[.bool g2, .string n2, .string d2]] W fun e w' => e = .returned (.bool false) ∧ Below W.heap.size W w')
    (mx : ∀ W, Calls Tryz.prog 124 #[.string n1, .string d2] W fun e w' => e = .returned (.tuple #[.string x, .int .i64 0]) ∧ Below W.heap.size W w')
    (my : ∀ W, Calls Tryz.prog 124 #[.string n2, .string d1] W fun e w' => e = .returned (.tuple #[.string y, .int .i64 0]) ∧ Below W.heap.size W w')
    (mz : ∀ W, Calls Tryz.prog 124 #[.string d1, .string d2] W fun e w' => e = .returned (.tuple #[.string z, .int .i64 0]) ∧ Below W.heap.size W w')
    (kc : ∀ W, Calls Tryz.prog 142 #[.string x, .string y] W fun e w' => e = .returned (.tuple #[.int .i64 c, .int .i64 0]) ∧ Below W.heap.size W w')
    (ks : ∀ W, Calls Tryz.prog 103 #[.string y, .string x] W fun e w' => e = .returned (.tuple #[.string s, .int .i64 0]) ∧ Below W.heap.size W w')
    (kr : ∀ W, Calls Tryz.prog 104 #[.bool g2, .string s, .string z] W fun e w' => e = .returned (.tuple #[.agg #[.bool r, .string n, .string d], .int .i64 E]) ∧ Below W.heap.size W w') :
    Calls Tryz.prog 106 #[.agg #[.bool g1, .string n1, .string d1], .agg #[.bool g2, .string n2, .string d2]] w fun e w' => e = .returned (.tuple #[.agg #[.bool r, .string n, .string d], .int .i64 E]) ∧ Below w.heap.size w w' := by
  have q0 := Lib.hid (TwoBoxes.new w g1 g2 n1 d1 n2 d2)
  have hB0 := Lib.hid (twoW_below w g1 g2 n1 d1 n2 d2)
  replace v1 := Lib.hid v1
  replace v2 := Lib.hid v2
  replace l1 := Lib.hid l1
  replace l2 := Lib.hid l2
  replace mx := Lib.hid mx
  replace my := Lib.hid my
  replace mz := Lib.hid mz
  replace kc := Lib.hid kc
  replace ks := Lib.hid ks
  replace kr := Lib.hid kr
  go_enter Tryz.func106, Tryz.ntmps106
  go_wp2_with fail
  refine (v1.out _).mono ?_
  rintro e w1 ⟨rfl, hb⟩
  have q1 := q0.out.below hb
  have hB1 := Lib.hid (hB0.out.trans (hb.mono hB0.out.size))
  clear hb
  obtain ⟨a1, a2, a3, a4, a5, a6⟩ := q1.1.facts
  obtain ⟨b1, b2, b3, b4, b5, b6⟩ := q1.2.1.facts
  obtain ⟨c1, c2, c3, c4, c5, c6⟩ := q1.2.2.facts
  have c7 := q1.2.2.lt
  replace q1 := Lib.hid q1
  go_wp2_with fail
  refine (v2.out _).mono ?_
  rintro e w2 ⟨rfl, hb⟩
  have q2 := q1.out.below hb
  have hB2 := Lib.hid (hB1.out.trans (hb.mono hB1.out.size))
  clear a1 a2 a3 a4 a5 a6 b1 b2 b3 b4 b5 b6 c1 c2 c3 c4 c5 c6 c7
  clear hb
  obtain ⟨a1, a2, a3, a4, a5, a6⟩ := q2.1.facts
  obtain ⟨b1, b2, b3, b4, b5, b6⟩ := q2.2.1.facts
  obtain ⟨c1, c2, c3, c4, c5, c6⟩ := q2.2.2.facts
  have c7 := q2.2.2.lt
  replace q2 := Lib.hid q2
  go_wp2_with fail
  refine (l1.out _).mono ?_
  rintro e w3 ⟨rfl, hb⟩
  have q3 := q2.out.below hb
  have hB3 := Lib.hid (hB2.out.trans (hb.mono hB2.out.size))
  clear a1 a2 a3 a4 a5 a6 b1 b2 b3 b4 b5 b6 c1 c2 c3 c4 c5 c6 c7
  clear hb
  obtain ⟨a1, a2, a3, a4, a5, a6⟩ := q3.1.facts
  obtain ⟨b1, b2, b3, b4, b5, b6⟩ := q3.2.1.facts
  obtain ⟨c1, c2, c3, c4, c5, c6⟩ := q3.2.2.facts
  have c7 := q3.2.2.lt
  replace q3 := Lib.hid q3
  go_wp2_with fail
  refine (l2.out _).mono ?_
  rintro e w4 ⟨rfl, hb⟩
  have q4 := q3.out.below hb
  have hB4 := Lib.hid (hB3.out.trans (hb.mono hB3.out.size))
  clear a1 a2 a3 a4 a5 a6 b1 b2 b3 b4 b5 b6 c1 c2 c3 c4 c5 c6 c7
  clear hb
  obtain ⟨a1, a2, a3, a4, a5, a6⟩ := q4.1.facts
  obtain ⟨b1, b2, b3, b4, b5, b6⟩ := q4.2.1.facts
  obtain ⟨c1, c2, c3, c4, c5, c6⟩ := q4.2.2.facts
  have c7 := q4.2.2.lt
  replace q4 := Lib.hid q4
  go_wp2_with fail
  refine (mx.out _).mono ?_
  rintro e w5 ⟨rfl, hb⟩
  have q5 := q4.out.below hb
  have hB5 := Lib.hid (hB4.out.trans (hb.mono hB4.out.size))
  clear a1 a2 a3 a4 a5 a6 b1 b2 b3 b4 b5 b6 c1 c2 c3 c4 c5 c6 c7
  clear hb
  obtain ⟨a1, a2, a3, a4, a5, a6⟩ := q5.1.facts
  obtain ⟨b1, b2, b3, b4, b5, b6⟩ := q5.2.1.facts
  obtain ⟨c1, c2, c3, c4, c5, c6⟩ := q5.2.2.facts
  have c7 := q5.2.2.lt
  replace q5 := Lib.hid q5
  go_wp2_with fail
  refine (my.out _).mono ?_
  rintro e w6 ⟨rfl, hb⟩
  have q6 := q5.out.below hb
  have hB6 := Lib.hid (hB5.out.trans (hb.mono hB5.out.size))
  clear a1 a2 a3 a4 a5 a6 b1 b2 b3 b4 b5 b6 c1 c2 c3 c4 c5 c6 c7
  clear hb
  obtain ⟨a1, a2, a3, a4, a5, a6⟩ := q6.1.facts
  obtain ⟨b1, b2, b3, b4, b5, b6⟩ := q6.2.1.facts
  obtain ⟨c1, c2, c3, c4, c5, c6⟩ := q6.2.2.facts
  have c7 := q6.2.2.lt
  replace q6 := Lib.hid q6
  go_wp2_with fail
  refine (mz.out _).mono ?_
  rintro e w7 ⟨rfl, hb⟩
  have q7 := q6.out.below hb
  have hB7 := Lib.hid (hB6.out.trans (hb.mono hB6.out.size))
  clear a1 a2 a3 a4 a5 a6 b1 b2 b3 b4 b5 b6 c1 c2 c3 c4 c5 c6 c7
  clear hb
  obtain ⟨a1, a2, a3, a4, a5, a6⟩ := q7.1.facts
  obtain ⟨b1, b2, b3, b4, b5, b6⟩ := q7.2.1.facts
  obtain ⟨c1, c2, c3, c4, c5, c6⟩ := q7.2.2.facts
  have c7 := q7.2.2.lt
  replace q7 := Lib.hid q7
  go_wp2_with fail
  refine (kc.out _).mono ?_
  rintro e w8 ⟨rfl, hb⟩
  have q8 := q7.out.below hb
  have hB8 := Lib.hid (hB7.out.trans (hb.mono hB7.out.size))
  clear a1 a2 a3 a4 a5 a6 b1 b2 b3 b4 b5 b6 c1 c2 c3 c4 c5 c6 c7
  clear hb
  obtain ⟨a1, a2, a3, a4, a5, a6⟩ := q8.1.facts
  obtain ⟨b1, b2, b3, b4, b5, b6⟩ := q8.2.1.facts
  obtain ⟨c1, c2, c3, c4, c5, c6⟩ := q8.2.2.facts
  have c7 := q8.2.2.lt
  replace q8 := Lib.hid q8
  go_wp2_with fail
  refine (ks.out _).mono ?_
  rintro e w9 ⟨rfl, hb⟩
  have q9 := q8.out.below hb
  have hB9 := Lib.hid (hB8.out.trans (hb.mono hB8.out.size))
  clear a1 a2 a3 a4 a5 a6 b1 b2 b3 b4 b5 b6 c1 c2 c3 c4 c5 c6 c7
  clear hb
  obtain ⟨a1, a2, a3, a4, a5, a6⟩ := q9.1.facts
  obtain ⟨b1, b2, b3, b4, b5, b6⟩ := q9.2.1.facts
  obtain ⟨c1, c2, c3, c4, c5, c6⟩ := q9.2.2.facts
  have c7 := q9.2.2.lt
  replace q9 := Lib.hid q9
  go_wp2_with fail
  refine (kr.out _).mono ?_
  rintro e w10 ⟨rfl, hb⟩
  have q10 := q9.out.below hb
  have hB10 := Lib.hid (hB9.out.trans (hb.mono hB9.out.size))
  clear a1 a2 a3 a4 a5 a6 b1 b2 b3 b4 b5 b6 c1 c2 c3 c4 c5 c6 c7
  clear hb
  obtain ⟨a1, a2, a3, a4, a5, a6⟩ := q10.1.facts
  obtain ⟨b1, b2, b3, b4, b5, b6⟩ := q10.2.1.facts
  obtain ⟨c1, c2, c3, c4, c5, c6⟩ := q10.2.2.facts
  have c7 := q10.2.2.lt
  replace q10 := Lib.hid q10
  go_wp2
  refine bodyPost_ret (v := .tuple #[.agg #[.bool r, .string n, .string d], .int .i64 E]) (by simp [results, Tryz.results106, go_sem, c1, c2, c3]) rfl ⟨rfl, ?_⟩
  repeat refine Below.setCell ?_ (by simp only []; omega) _
  exact hB10.out
set_option maxRecDepth 100000 in
set_option maxHeartbeats 2000000 in
theorem RRAdd_more (g1 g2 : Bool) (n1 d1 n2 d2 : ByteArray) (x y z s : ByteArray) (r : Bool) (n d : ByteArray) (E : Int) (c : Int) (hc : 0 ≤ c) (hg : (g1 == g2) = false) (w : World)
    (v1 : ∀ W, Calls Tryz.prog 47 #[.agg #[.bool g1, .string n1, .string d1]] W fun e w' => e = .returned (.bool true) ∧ Below W.heap.size W w')
    (v2 : ∀ W, Calls Tryz.prog 47 #[.agg #[.bool g2, .string n2, .string d2]] W fun e w' => e = .returned (.bool true) ∧ Below W.heap.size W w')
    (l1 : ∀ W, Calls Tryz.prog 123 #[.agg #[.bool g1, .string n1, .string d1]] W fun e w' => e = .returned (.bool false) ∧ Below W.heap.size W w')
    (l2 : ∀ W, Calls Tryz.prog 123 #[.agg #[.bool g2, .string n2, .string d2]] W fun e w' => e = .returned (.bool false) ∧ Below W.heap.size W w')
    (mx : ∀ W, Calls Tryz.prog 124 #[.string n1, .string d2] W fun e w' => e = .returned (.tuple #[.string x, .int .i64 0]) ∧ Below W.heap.size W w')
    (my : ∀ W, Calls Tryz.prog 124 #[.string n2, .string d1] W fun e w' => e = .returned (.tuple #[.string y, .int .i64 0]) ∧ Below W.heap.size W w')
    (mz : ∀ W, Calls Tryz.prog 124 #[.string d1, .string d2] W fun e w' => e = .returned (.tuple #[.string z, .int .i64 0]) ∧ Below W.heap.size W w')
    (kc : ∀ W, Calls Tryz.prog 142 #[.string x, .string y] W fun e w' => e = .returned (.tuple #[.int .i64 c, .int .i64 0]) ∧ Below W.heap.size W w')
    (ks : ∀ W, Calls Tryz.prog 103 #[.string x, .string y] W fun e w' => e = .returned (.tuple #[.string s, .int .i64 0]) ∧ Below W.heap.size W w')
    (kr : ∀ W, Calls Tryz.prog 104 #[.bool g1, .string s, .string z] W fun e w' => e = .returned (.tuple #[.agg #[.bool r, .string n, .string d], .int .i64 E]) ∧ Below W.heap.size W w') :
    Calls Tryz.prog 106 #[.agg #[.bool g1, .string n1, .string d1], .agg #[.bool g2, .string n2, .string d2]] w fun e w' => e = .returned (.tuple #[.agg #[.bool r, .string n, .string d], .int .i64 E]) ∧ Below w.heap.size w w' := by
  have q0 := Lib.hid (TwoBoxes.new w g1 g2 n1 d1 n2 d2)
  have hB0 := Lib.hid (twoW_below w g1 g2 n1 d1 n2 d2)
  replace v1 := Lib.hid v1
  replace v2 := Lib.hid v2
  replace l1 := Lib.hid l1
  replace l2 := Lib.hid l2
  replace mx := Lib.hid mx
  replace my := Lib.hid my
  replace mz := Lib.hid mz
  replace kc := Lib.hid kc
  replace ks := Lib.hid ks
  replace kr := Lib.hid kr
  go_enter Tryz.func106, Tryz.ntmps106
  go_wp2_with fail
  refine (v1.out _).mono ?_
  rintro e w1 ⟨rfl, hb⟩
  have q1 := q0.out.below hb
  have hB1 := Lib.hid (hB0.out.trans (hb.mono hB0.out.size))
  clear hb
  obtain ⟨a1, a2, a3, a4, a5, a6⟩ := q1.1.facts
  obtain ⟨b1, b2, b3, b4, b5, b6⟩ := q1.2.1.facts
  obtain ⟨c1, c2, c3, c4, c5, c6⟩ := q1.2.2.facts
  have c7 := q1.2.2.lt
  replace q1 := Lib.hid q1
  go_wp2_with fail
  refine (v2.out _).mono ?_
  rintro e w2 ⟨rfl, hb⟩
  have q2 := q1.out.below hb
  have hB2 := Lib.hid (hB1.out.trans (hb.mono hB1.out.size))
  clear a1 a2 a3 a4 a5 a6 b1 b2 b3 b4 b5 b6 c1 c2 c3 c4 c5 c6 c7
  clear hb
  obtain ⟨a1, a2, a3, a4, a5, a6⟩ := q2.1.facts
  obtain ⟨b1, b2, b3, b4, b5, b6⟩ := q2.2.1.facts
  obtain ⟨c1, c2, c3, c4, c5, c6⟩ := q2.2.2.facts
  have c7 := q2.2.2.lt
  replace q2 := Lib.hid q2
  go_wp2_with fail
  refine (l1.out _).mono ?_
  rintro e w3 ⟨rfl, hb⟩
  have q3 := q2.out.below hb
  have hB3 := Lib.hid (hB2.out.trans (hb.mono hB2.out.size))
  clear a1 a2 a3 a4 a5 a6 b1 b2 b3 b4 b5 b6 c1 c2 c3 c4 c5 c6 c7
  clear hb
  obtain ⟨a1, a2, a3, a4, a5, a6⟩ := q3.1.facts
  obtain ⟨b1, b2, b3, b4, b5, b6⟩ := q3.2.1.facts
  obtain ⟨c1, c2, c3, c4, c5, c6⟩ := q3.2.2.facts
  have c7 := q3.2.2.lt
  replace q3 := Lib.hid q3
  go_wp2_with fail
  refine (l2.out _).mono ?_
  rintro e w4 ⟨rfl, hb⟩
  have q4 := q3.out.below hb
  have hB4 := Lib.hid (hB3.out.trans (hb.mono hB3.out.size))
  clear a1 a2 a3 a4 a5 a6 b1 b2 b3 b4 b5 b6 c1 c2 c3 c4 c5 c6 c7
  clear hb
  obtain ⟨a1, a2, a3, a4, a5, a6⟩ := q4.1.facts
  obtain ⟨b1, b2, b3, b4, b5, b6⟩ := q4.2.1.facts
  obtain ⟨c1, c2, c3, c4, c5, c6⟩ := q4.2.2.facts
  have c7 := q4.2.2.lt
  replace q4 := Lib.hid q4
  go_wp2_with fail
  refine (mx.out _).mono ?_
  rintro e w5 ⟨rfl, hb⟩
  have q5 := q4.out.below hb
  have hB5 := Lib.hid (hB4.out.trans (hb.mono hB4.out.size))
  clear a1 a2 a3 a4 a5 a6 b1 b2 b3 b4 b5 b6 c1 c2 c3 c4 c5 c6 c7
  clear hb
  obtain ⟨a1, a2, a3, a4, a5, a6⟩ := q5.1.facts
  obtain ⟨b1, b2, b3, b4, b5, b6⟩ := q5.2.1.facts
  obtain ⟨c1, c2, c3, c4, c5, c6⟩ := q5.2.2.facts
  have c7 := q5.2.2.lt
  replace q5 := Lib.hid q5
  go_wp2_with fail
  refine (my.out _).mono ?_
  rintro e w6 ⟨rfl, hb⟩
  have q6 := q5.out.below hb
  have hB6 := Lib.hid (hB5.out.trans (hb.mono hB5.out.size))
  clear a1 a2 a3 a4 a5 a6 b1 b2 b3 b4 b5 b6 c1 c2 c3 c4 c5 c6 c7
  clear hb
  obtain ⟨a1, a2, a3, a4, a5, a6⟩ := q6.1.facts
  obtain ⟨b1, b2, b3, b4, b5, b6⟩ := q6.2.1.facts
  obtain ⟨c1, c2, c3, c4, c5, c6⟩ := q6.2.2.facts
  have c7 := q6.2.2.lt
  replace q6 := Lib.hid q6
  go_wp2_with fail
  refine (mz.out _).mono ?_
  rintro e w7 ⟨rfl, hb⟩
  have q7 := q6.out.below hb
  have hB7 := Lib.hid (hB6.out.trans (hb.mono hB6.out.size))
  clear a1 a2 a3 a4 a5 a6 b1 b2 b3 b4 b5 b6 c1 c2 c3 c4 c5 c6 c7
  clear hb
  obtain ⟨a1, a2, a3, a4, a5, a6⟩ := q7.1.facts
  obtain ⟨b1, b2, b3, b4, b5, b6⟩ := q7.2.1.facts
  obtain ⟨c1, c2, c3, c4, c5, c6⟩ := q7.2.2.facts
  have c7 := q7.2.2.lt
  replace q7 := Lib.hid q7
  go_wp2_with fail
  refine (kc.out _).mono ?_
  rintro e w8 ⟨rfl, hb⟩
  have q8 := q7.out.below hb
  have hB8 := Lib.hid (hB7.out.trans (hb.mono hB7.out.size))
  clear a1 a2 a3 a4 a5 a6 b1 b2 b3 b4 b5 b6 c1 c2 c3 c4 c5 c6 c7
  clear hb
  obtain ⟨a1, a2, a3, a4, a5, a6⟩ := q8.1.facts
  obtain ⟨b1, b2, b3, b4, b5, b6⟩ := q8.2.1.facts
  obtain ⟨c1, c2, c3, c4, c5, c6⟩ := q8.2.2.facts
  have c7 := q8.2.2.lt
  replace q8 := Lib.hid q8
  go_wp2_with fail
  refine (ks.out _).mono ?_
  rintro e w9 ⟨rfl, hb⟩
  have q9 := q8.out.below hb
  have hB9 := Lib.hid (hB8.out.trans (hb.mono hB8.out.size))
  clear a1 a2 a3 a4 a5 a6 b1 b2 b3 b4 b5 b6 c1 c2 c3 c4 c5 c6 c7
  clear hb
  obtain ⟨a1, a2, a3, a4, a5, a6⟩ := q9.1.facts
  obtain ⟨b1, b2, b3, b4, b5, b6⟩ := q9.2.1.facts
  obtain ⟨c1, c2, c3, c4, c5, c6⟩ := q9.2.2.facts
  have c7 := q9.2.2.lt
  replace q9 := Lib.hid q9
  go_wp2_with fail
  refine (kr.out _).mono ?_
  rintro e w10 ⟨rfl, hb⟩
  have q10 := q9.out.below hb
  have hB10 := Lib.hid (hB9.out.trans (hb.mono hB9.out.size))
  clear a1 a2 a3 a4 a5 a6 b1 b2 b3 b4 b5 b6 c1 c2 c3 c4 c5 c6 c7
  clear hb
  obtain ⟨a1, a2, a3, a4, a5, a6⟩ := q10.1.facts
  obtain ⟨b1, b2, b3, b4, b5, b6⟩ := q10.2.1.facts
  obtain ⟨c1, c2, c3, c4, c5, c6⟩ := q10.2.2.facts
  have c7 := q10.2.2.lt
  replace q10 := Lib.hid q10
  go_wp2
  refine bodyPost_ret (v := .tuple #[.agg #[.bool r, .string n, .string d], .int .i64 E]) (by simp [results, Tryz.results106, go_sem, c1, c2, c3]) rfl ⟨rfl, ?_⟩
  repeat refine Below.setCell ?_ (by simp only []; omega) _
  exact hB10.out
set_option maxRecDepth 100000 in
set_option maxHeartbeats 2000000 in
theorem RRMul_go (g1 g2 : Bool) (n1 d1 n2 d2 : ByteArray) (x z : ByteArray) (r : Bool) (n d : ByteArray) (E : Int) (w : World)
    (v1 : ∀ W, Calls Tryz.prog 47 #[.agg #[.bool g1, .string n1, .string d1]] W fun e w' => e = .returned (.bool true) ∧ Below W.heap.size W w')
    (v2 : ∀ W, Calls Tryz.prog 47 #[.agg #[.bool g2, .string n2, .string d2]] W fun e w' => e = .returned (.bool true) ∧ Below W.heap.size W w')
    (l1 : ∀ W, Calls Tryz.prog 123 #[.agg #[.bool g1, .string n1, .string d1]] W fun e w' => e = .returned (.bool false) ∧ Below W.heap.size W w')
    (l2 : ∀ W, Calls Tryz.prog 123 #[.agg #[.bool g2, .string n2, .string d2]] W fun e w' => e = .returned (.bool false) ∧ Below W.heap.size W w')
    (mx : ∀ W, Calls Tryz.prog 124 #[.string n1, .string n2] W fun e w' => e = .returned (.tuple #[.string x, .int .i64 0]) ∧ Below W.heap.size W w')
    (mz : ∀ W, Calls Tryz.prog 124 #[.string d1, .string d2] W fun e w' => e = .returned (.tuple #[.string z, .int .i64 0]) ∧ Below W.heap.size W w')
    (kr : ∀ W, Calls Tryz.prog 104 #[.bool (!(g1 == g2)), .string x, .string z] W fun e w' => e = .returned (.tuple #[.agg #[.bool r, .string n, .string d], .int .i64 E]) ∧ Below W.heap.size W w') :
    Calls Tryz.prog 88 #[.agg #[.bool g1, .string n1, .string d1], .agg #[.bool g2, .string n2, .string d2]] w fun e w' => e = .returned (.tuple #[.agg #[.bool r, .string n, .string d], .int .i64 E]) ∧ Below w.heap.size w w' := by
  have q0 := Lib.hid (TwoBoxes.new w g1 g2 n1 d1 n2 d2)
  have hB0 := Lib.hid (twoW_below w g1 g2 n1 d1 n2 d2)
  replace v1 := Lib.hid v1
  replace v2 := Lib.hid v2
  replace l1 := Lib.hid l1
  replace l2 := Lib.hid l2
  replace mx := Lib.hid mx
  replace mz := Lib.hid mz
  replace kr := Lib.hid kr
  go_enter Tryz.func88, Tryz.ntmps88
  go_wp2_with fail
  refine (v1.out _).mono ?_
  rintro e w1 ⟨rfl, hb⟩
  have q1 := q0.out.below hb
  have hB1 := Lib.hid (hB0.out.trans (hb.mono hB0.out.size))
  clear hb
  obtain ⟨a1, a2, a3, a4, a5, a6⟩ := q1.1.facts
  obtain ⟨b1, b2, b3, b4, b5, b6⟩ := q1.2.1.facts
  obtain ⟨c1, c2, c3, c4, c5, c6⟩ := q1.2.2.facts
  have c7 := q1.2.2.lt
  replace q1 := Lib.hid q1
  go_wp2_with fail
  refine (v2.out _).mono ?_
  rintro e w2 ⟨rfl, hb⟩
  have q2 := q1.out.below hb
  have hB2 := Lib.hid (hB1.out.trans (hb.mono hB1.out.size))
  clear a1 a2 a3 a4 a5 a6 b1 b2 b3 b4 b5 b6 c1 c2 c3 c4 c5 c6 c7
  clear hb
  obtain ⟨a1, a2, a3, a4, a5, a6⟩ := q2.1.facts
  obtain ⟨b1, b2, b3, b4, b5, b6⟩ := q2.2.1.facts
  obtain ⟨c1, c2, c3, c4, c5, c6⟩ := q2.2.2.facts
  have c7 := q2.2.2.lt
  replace q2 := Lib.hid q2
  go_wp2_with fail
  refine (l1.out _).mono ?_
  rintro e w3 ⟨rfl, hb⟩
  have q3 := q2.out.below hb
  have hB3 := Lib.hid (hB2.out.trans (hb.mono hB2.out.size))
  clear a1 a2 a3 a4 a5 a6 b1 b2 b3 b4 b5 b6 c1 c2 c3 c4 c5 c6 c7
  clear hb
  obtain ⟨a1, a2, a3, a4, a5, a6⟩ := q3.1.facts
  obtain ⟨b1, b2, b3, b4, b5, b6⟩ := q3.2.1.facts
  obtain ⟨c1, c2, c3, c4, c5, c6⟩ := q3.2.2.facts
  have c7 := q3.2.2.lt
  replace q3 := Lib.hid q3
  go_wp2_with fail
  refine (l2.out _).mono ?_
  rintro e w4 ⟨rfl, hb⟩
  have q4 := q3.out.below hb
  have hB4 := Lib.hid (hB3.out.trans (hb.mono hB3.out.size))
  clear a1 a2 a3 a4 a5 a6 b1 b2 b3 b4 b5 b6 c1 c2 c3 c4 c5 c6 c7
  clear hb
  obtain ⟨a1, a2, a3, a4, a5, a6⟩ := q4.1.facts
  obtain ⟨b1, b2, b3, b4, b5, b6⟩ := q4.2.1.facts
  obtain ⟨c1, c2, c3, c4, c5, c6⟩ := q4.2.2.facts
  have c7 := q4.2.2.lt
  replace q4 := Lib.hid q4
  go_wp2_with fail
  refine (mx.out _).mono ?_
  rintro e w5 ⟨rfl, hb⟩
  have q5 := q4.out.below hb
  have hB5 := Lib.hid (hB4.out.trans (hb.mono hB4.out.size))
  clear a1 a2 a3 a4 a5 a6 b1 b2 b3 b4 b5 b6 c1 c2 c3 c4 c5 c6 c7
  clear hb
  obtain ⟨a1, a2, a3, a4, a5, a6⟩ := q5.1.facts
  obtain ⟨b1, b2, b3, b4, b5, b6⟩ := q5.2.1.facts
  obtain ⟨c1, c2, c3, c4, c5, c6⟩ := q5.2.2.facts
  have c7 := q5.2.2.lt
  replace q5 := Lib.hid q5
  go_wp2_with fail
  refine (mz.out _).mono ?_
  rintro e w6 ⟨rfl, hb⟩
  have q6 := q5.out.below hb
  have hB6 := Lib.hid (hB5.out.trans (hb.mono hB5.out.size))
  clear a1 a2 a3 a4 a5 a6 b1 b2 b3 b4 b5 b6 c1 c2 c3 c4 c5 c6 c7
  clear hb
  obtain ⟨a1, a2, a3, a4, a5, a6⟩ := q6.1.facts
  obtain ⟨b1, b2, b3, b4, b5, b6⟩ := q6.2.1.facts
  obtain ⟨c1, c2, c3, c4, c5, c6⟩ := q6.2.2.facts
  have c7 := q6.2.2.lt
  replace q6 := Lib.hid q6
  go_wp2_with fail
  refine (kr.out _).mono ?_
  rintro e w7 ⟨rfl, hb⟩
  have q7 := q6.out.below hb
  have hB7 := Lib.hid (hB6.out.trans (hb.mono hB6.out.size))
  clear a1 a2 a3 a4 a5 a6 b1 b2 b3 b4 b5 b6 c1 c2 c3 c4 c5 c6 c7
  clear hb
  obtain ⟨a1, a2, a3, a4, a5, a6⟩ := q7.1.facts
  obtain ⟨b1, b2, b3, b4, b5, b6⟩ := q7.2.1.facts
  obtain ⟨c1, c2, c3, c4, c5, c6⟩ := q7.2.2.facts
  have c7 := q7.2.2.lt
  replace q7 := Lib.hid q7
  go_wp2
  refine bodyPost_ret (v := .tuple #[.agg #[.bool r, .string n, .string d], .int .i64 E]) (by simp [results, Tryz.results88, go_sem, c1, c2, c3]) rfl ⟨rfl, ?_⟩
  repeat refine Below.setCell ?_ (by simp only []; omega) _
  exact hB7.out
set_option maxRecDepth 100000 in
set_option maxHeartbeats 2000000 in
theorem RRSub_go (g1 g2 : Bool) (n1 d1 n2 d2 : ByteArray) (g3 r : Bool) (n d : ByteArray) (E : Int) (w : World)
    (v1 : ∀ W, Calls Tryz.prog 47 #[.agg #[.bool g1, .string n1, .string d1]] W fun e w' => e = .returned (.bool true) ∧ Below W.heap.size W w')
    (v2 : ∀ W, Calls Tryz.prog 47 #[.agg #[.bool g2, .string n2, .string d2]] W fun e w' => e = .returned (.bool true) ∧ Below W.heap.size W w')
    (ho : ∀ W, Calls Tryz.prog 107 #[.agg #[.bool g2, .string n2, .string d2]] W fun e w' => e = .returned (.agg #[.bool g3, .string n2, .string d2]) ∧ Below W.heap.size W w')
    (hc : ∀ W, Calls Tryz.prog 106 #[.agg #[.bool g1, .string n1, .string d1], .agg #[.bool g3, .string n2, .string d2]] W fun e w' => e = .returned (.tuple #[.agg #[.bool r, .string n, .string d], .int .i64 E]) ∧ Below W.heap.size W w') :
    Calls Tryz.prog 50 #[.agg #[.bool g1, .string n1, .string d1], .agg #[.bool g2, .string n2, .string d2]] w fun e w' => e = .returned (.tuple #[.agg #[.bool r, .string n, .string d], .int .i64 E]) ∧ Below w.heap.size w w' := by
  have q0 := Lib.hid (TwoBoxes.new w g1 g2 n1 d1 n2 d2)
  have hB0 := Lib.hid (twoW_below w g1 g2 n1 d1 n2 d2)
  replace v1 := Lib.hid v1
  replace v2 := Lib.hid v2
  replace ho := Lib.hid ho
  replace hc := Lib.hid hc
  go_enter Tryz.func50, Tryz.ntmps50
  go_wp2_with fail
  refine (v1.out _).mono ?_
  rintro e w1 ⟨rfl, hb⟩
  have q1 := q0.out.below hb
  have hB1 := Lib.hid (hB0.out.trans (hb.mono hB0.out.size))
  clear hb
  obtain ⟨a1, a2, a3, a4, a5, a6⟩ := q1.1.facts
  obtain ⟨b1, b2, b3, b4, b5, b6⟩ := q1.2.1.facts
  obtain ⟨c1, c2, c3, c4, c5, c6⟩ := q1.2.2.facts
  have c7 := q1.2.2.lt
  replace q1 := Lib.hid q1
  go_wp2_with fail
  refine (v2.out _).mono ?_
  rintro e w2 ⟨rfl, hb⟩
  have q2 := q1.out.below hb
  have hB2 := Lib.hid (hB1.out.trans (hb.mono hB1.out.size))
  clear a1 a2 a3 a4 a5 a6 b1 b2 b3 b4 b5 b6 c1 c2 c3 c4 c5 c6 c7
  clear hb
  obtain ⟨a1, a2, a3, a4, a5, a6⟩ := q2.1.facts
  obtain ⟨b1, b2, b3, b4, b5, b6⟩ := q2.2.1.facts
  obtain ⟨c1, c2, c3, c4, c5, c6⟩ := q2.2.2.facts
  have c7 := q2.2.2.lt
  replace q2 := Lib.hid q2
  clear a1 a2 a3 a4 a5 a6 b1 b2 b3 b4 b5 b6 c1 c2 c3 c4 c5 c6 c7
  go_wp2_with fail
  have q2d : Hid (TwoBoxes w2.drew w.heap.size g1 g2 n1 d1 n2 d2) := q2.out
  have hB2d : Hid (Below w.heap.size w w2.drew) := hB2.out.drew
  obtain ⟨a1, a2, a3, b1, b2, b3⟩ := q2.out.six
  go_region_held3 (fun w' => w'.cell? ⟨w.heap.size, 0, none⟩ = some (.bool g1) ∧ w'.cell? ⟨w.heap.size, 1, none⟩ = some (.string n1) ∧ w'.cell? ⟨w.heap.size, 2, none⟩ = some (.string d1) ∧ w'.cell? ⟨w.heap.size + 1, 0, none⟩ = some (.bool g2) ∧ w'.cell? ⟨w.heap.size + 1, 1, none⟩ = some (.string n2) ∧ w'.cell? ⟨w.heap.size + 1, 2, none⟩ = some (.string d2)) (first | (with_reducible exact q2.out.six) | (with_reducible exact q2d.out.six) | (with_reducible exact q3.out.six) | (with_reducible exact q4.out.six) | (with_reducible exact q4.out.six_set _ _ _) | go_keep)
    (first
      | (go_at_call 107; refine (ho.out _).mono ?_; rintro e w3 ⟨rfl, hb3⟩; have q3 := Lib.hid (q2d.out.below hb3); have hB3 := Lib.hid (hB2d.out.trans (hb3.mono hB2d.out.size)); clear hb3)
      | (go_at_call 106; refine (hc.out _).mono ?_; rintro e w4 ⟨rfl, hb4⟩; have q4 := Lib.hid (q3.out.below hb4); obtain ⟨c1, c2, c3, c4, c5, c6⟩ := q4.out.2.2.facts; have hB4 := Lib.hid (hB3.out.trans (hb4.mono hB3.out.size)); clear hb4))
  go_wp2
  refine bodyPost_ret (v := .tuple #[.agg #[.bool r, .string n, .string d], .int .i64 E]) (by simp [results, Tryz.results50, go_sem, c1, c2, c3]) rfl ⟨rfl, ?_⟩
  repeat refine Below.setCell ?_ (by simp only []; omega) _
  exact hB4.out
set_option maxRecDepth 100000 in
set_option maxHeartbeats 2000000 in
theorem RRCompare_w (g1 g2 : Bool) (n1 d1 n2 d2 : ByteArray) (r : Bool) (n d : ByteArray) (E c f : Int) (w : World)
    (hs : ∀ W, Calls Tryz.prog 50 #[.agg #[.bool g1, .string n1, .string d1], .agg #[.bool g2, .string n2, .string d2]] W fun e w' => e = .returned (.tuple #[.agg #[.bool r, .string n, .string d], .int .i64 E]) ∧ Below W.heap.size W w')
    (hk : (E ≠ 0 ∧ c = 0 ∧ f = E) ∨ (E = 0 ∧ (n.toList == [48]) = true ∧ c = 0 ∧ f = 0) ∨ (E = 0 ∧ (n.toList == [48]) = false ∧ r = true ∧ c = -1 ∧ f = 0) ∨ (E = 0 ∧ (n.toList == [48]) = false ∧ r = false ∧ c = 1 ∧ f = 0)) :
    Calls Tryz.prog 51 #[.agg #[.bool g1, .string n1, .string d1], .agg #[.bool g2, .string n2, .string d2]] w fun e w' => e = .returned (.tuple #[.int .i64 c, .int .i64 f]) ∧ Below w.heap.size w w' := by
  have hBE : Hid (Below w.heap.size w ((w.alloc (.cells #[.bool g1, .string n1, .string d1] 23)).alloc (.cells #[.bool g2, .string n2, .string d2] 23))) := ((Below.refl _ w).alloc (Nat.le_refl _) _).alloc (by simp) _
  replace hs := Lib.hid hs
  rcases hk with ⟨h1, rfl, rfl⟩ | ⟨rfl, h1, rfl, rfl⟩ | ⟨rfl, h1, rfl, rfl, rfl⟩ | ⟨rfl, h1, rfl, rfl, rfl⟩
  rotate_left
  all_goals
    go_enter Tryz.func51, Tryz.ntmps51
    go_wp2_with fail
    refine (hs.out _).mono ?_
    rintro e w1 ⟨rfl, hb1⟩
    have hB1 := Lib.hid (hBE.out.trans (hb1.mono hBE.out.size))
    clear hb1
    go_wp2
    go_ret2
    exact ⟨rfl, hB1.out.alloc hB1.out.size _⟩
theorem vqv (q : Rat) (h : OkQ q) (W : World) : Calls Tryz.prog 47 #[.agg #[.bool (decide (q.num < 0)), .string (T (some q.num.natAbs)), .string (T (some q.den))]] W fun e w' => e = .returned (.bool true) ∧ Below W.heap.size W w' := by
  have hv := valid_qv h
  have hz := size_of_valid hv
  have := RRValid_any (decide (q.num < 0)) (T (some q.num.natAbs)) (T (some q.den)) W (by omega) (by omega)
  rwa [hv] at this
theorem lq (q : Rat) (h : ShortQ q) (W : World) : Calls Tryz.prog 123 #[.agg #[.bool (decide (q.num < 0)), .string (T (some q.num.natAbs)), .string (T (some q.den))]] W fun e w' => e = .returned (.bool false) ∧ Below W.heap.size W w' :=
  RRlong_no _ _ _ W (short_sizes h).1 (short_sizes h).2
theorem RRAdd_short (p q : Rat) (hp : ShortQ p) (hq : ShortQ q) (w : World) :
    Calls Tryz.prog 106 #[qv p, qv q] w fun e w' => e = .returned (.tuple #[qv (p + q), .int .i64 0]) ∧ Below w.heap.size w w' := by
  have h1 := L1_mul hp.1 hq.2
  have h2 := L1_mul hq.1 hp.2
  have h3 := L1_mul hp.2 hq.2
  have h4 := L1_sq
  have hbd : p.den * q.den ≠ 0 := Nat.mul_ne_zero p.den_nz q.den_nz
  have mx := fun W => rmul p.num.natAbs q.den W (L1_lim hp.1) (L1_lim hq.2) (by omega)
  have my := fun W => rmul q.num.natAbs p.den W (L1_lim hq.1) (L1_lim hp.2) (by omega)
  have mz := fun W => rmul p.den q.den W (L1_lim hp.2) (L1_lim hq.2) (by omega)
  by_cases hg : decide (p.num < 0) = decide (q.num < 0)
  · have ks := fun W => radd (p.num.natAbs * q.den) (q.num.natAbs * p.den) W (by omega) (by omega) (by omega)
    have kr := fun W => RRreduce_any (decide (p.num < 0)) (p.num.natAbs * q.den + q.num.natAbs * p.den) (p.den * q.den) W (by omega) (by omega) hbd
    rw [sum_same rfl hg rfl rfl, add_mk] at kr
    have v2 := vqv q hq.ok
    have l2 := lq q hq
    have e : qv q = .agg #[.bool (decide (p.num < 0)), .string (T (some q.num.natAbs)), .string (T (some q.den))] := by rw [hg]; rfl
    rw [← hg] at v2 l2
    rw [e]
    exact RRAdd_same _ _ _ _ _ _ _ _ _ _ _ _ _ w (vqv p hp.ok) v2 (lq p hp) l2 mx my mz ks kr
  · have hne : (decide (p.num < 0) == decide (q.num < 0)) = false := by rw [beq_eq_false_iff_ne]; exact hg
    have kc := fun W => rcmp (p.num.natAbs * q.den) (q.num.natAbs * p.den) W (by omega) (by omega)
    rcases Nat.lt_or_ge (p.num.natAbs * q.den) (q.num.natAbs * p.den) with hl | hl
    · have ks := fun W => rsub (q.num.natAbs * p.den) (p.num.natAbs * q.den) W (by omega) (by omega) (by omega)
      have kr := fun W => RRreduce_any (decide (q.num < 0)) (q.num.natAbs * p.den - p.num.natAbs * q.den) (p.den * q.den) W (by omega) (by omega) hbd
      rw [sum_less rfl rfl rfl rfl hg hl, add_mk] at kr
      exact RRAdd_less _ _ _ _ _ _ _ _ _ _ _ _ _ _ _ (by rw [cmpN_lt hl]; omega) hne w (vqv p hp.ok) (vqv q hq.ok) (lq p hp) (lq q hq) mx my mz kc ks kr
    · have ks := fun W => rsub (p.num.natAbs * q.den) (q.num.natAbs * p.den) W (by omega) (by omega) hl
      have kr := fun W => RRreduce_any (decide (p.num < 0)) (p.num.natAbs * q.den - q.num.natAbs * p.den) (p.den * q.den) W (by omega) (by omega) hbd
      rw [sum_more rfl rfl rfl rfl hg hl, add_mk] at kr
      obtain ⟨c, hc, hc0, _⟩ := cmpN_ge hl
      exact RRAdd_more _ _ _ _ _ _ _ _ _ _ _ _ _ _ _ (by rw [← hc]; exact hc0) hne w (vqv p hp.ok) (vqv q hq.ok) (lq p hp) (lq q hq) mx my mz kc ks kr
theorem RRMul_short (p q : Rat) (hp : ShortQ p) (hq : ShortQ q) (w : World) :
    Calls Tryz.prog 88 #[qv p, qv q] w fun e w' => e = .returned (.tuple #[qv (p * q), .int .i64 0]) ∧ Below w.heap.size w w' := by
  have h1 := L1_mul hp.1 hq.1
  have h3 := L1_mul hp.2 hq.2
  have h4 := L1_sq
  have hbd : p.den * q.den ≠ 0 := Nat.mul_ne_zero p.den_nz q.den_nz
  have mx := fun W => rmul p.num.natAbs q.num.natAbs W (L1_lim hp.1) (L1_lim hq.1) (by omega)
  have mz := fun W => rmul p.den q.den W (L1_lim hp.2) (L1_lim hq.2) (by omega)
  have kr := fun W => RRreduce_any (!(decide (p.num < 0) == decide (q.num < 0))) (p.num.natAbs * q.num.natAbs) (p.den * q.den) W (by omega) (by omega) hbd
  have e := mul_mk p q
  rw [show (decide (p.num < 0) != decide (q.num < 0)) = !(decide (p.num < 0) == decide (q.num < 0)) from rfl] at e
  rw [e] at kr
  exact RRMul_go _ _ _ _ _ _ _ _ _ _ _ _ w (vqv p hp.ok) (vqv q hq.ok) (lq p hp) (lq q hq) mx mz kr
theorem neg_agg (q : Rat) : qv (-q) = .agg #[.bool (decide ((-q).num < 0)), .string (T (some q.num.natAbs)), .string (T (some q.den))] := by
  unfold qv
  rw [show (-q).num.natAbs = q.num.natAbs from Int.natAbs_neg _]
  rfl
theorem RRSub_short (p q : Rat) (hp : ShortQ p) (hq : ShortQ q) (w : World) :
    Calls Tryz.prog 50 #[qv p, qv q] w fun e w' => e = .returned (.tuple #[qv (p - q), .int .i64 0]) ∧ Below w.heap.size w w' := by
  have hc := fun W => RRAdd_short p (-q) hp hq.neg W
  rw [← Rat.sub_eq_add_neg] at hc
  have ho := fun W => RRNeg_q q W
  rw [neg_agg] at hc ho
  exact RRSub_go _ _ _ _ _ _ _ _ _ _ _ w (vqv p hp.ok) (vqv q hq.ok) ho hc
theorem OkQ.neg {q : Rat} (h : OkQ q) : OkQ (-q) := ⟨by show (-q.num).natAbs < Lim; rw [Int.natAbs_neg]; exact h.1, h.2⟩
theorem RRCompare_short (p q : Rat) (hp : ShortQ p) (hq : ShortQ q) (w : World) :
    Calls Tryz.prog 51 #[qv p, qv q] w fun e w' => e = .returned (.tuple #[.int .i64 (cmpQ p q), .int .i64 0]) ∧ Below w.heap.size w w' := by
  refine RRCompare_w _ _ _ _ _ _ _ _ _ 0 (cmpQ p q) 0 w (fun W => RRSub_short p q hp hq W) ?_
  unfold cmpQ
  rw [T_is_zero]
  by_cases h2 : p = q
  · refine .inr (.inl ⟨rfl, ?_, ?_, rfl⟩)
    · rw [(sub_zero_iff p q).2 h2]; rfl
    · rw [if_neg (h2 ▸ Rat.lt_irrefl), if_pos h2]
  · have h3 := num_ne_zero (fun h => h2 ((sub_zero_iff p q).1 h))
    have h4 : decide ((p - q).num.natAbs = 0) = false := decide_eq_false (by omega)
    by_cases h1 : p < q
    · exact .inr (.inr (.inl ⟨rfl, h4, decide_eq_true ((sub_neg_iff p q).2 h1), if_pos h1, rfl⟩))
    · refine .inr (.inr (.inr ⟨rfl, h4, decide_eq_false ((not_congr (sub_neg_iff p q)).2 h1), ?_, rfl⟩))
      rw [if_neg h1, if_neg h2]
end Nt
end Go.Proofs.YtpmlhgmmobpilaaGreatDoor
namespace Go.Proofs.YtpmlhgmmobpilaaGreatDoor
open Go.RowKit Go.Shelf
namespace Nt
set_option maxRecDepth 100000 in
set_option maxHeartbeats 2000000 in
theorem RRFloor_pos_ok (n d : ByteArray) (q r : ByteArray) (z : Int) (w : World)
    (kv : ∀ W, Calls Tryz.prog 47 #[.agg #[.bool false, .string n, .string d]] W fun e w' => e = .returned (.bool true) ∧ Below W.heap.size W w')
    (kd : ∀ W, Calls Tryz.prog 100 #[.string n, .string d] W fun e w' => e = .returned (.tuple #[.string q, .string r, .int .i64 0]) ∧ Below W.heap.size W w')
    (ki : ∀ W, Calls Tryz.prog 101 #[.string q] W fun e w' => e = .returned (.tuple #[.int .i64 z, .int .i64 0]) ∧ Below W.heap.size W w') :
    Calls Tryz.prog 48 #[.agg #[.bool false, .string n, .string d]] w fun e w' => e = .returned (.tuple #[.int .i64 z, .int .i64 0]) ∧ Below w.heap.size w w' := by
  have q0 := Lib.hid (B3.new w false n d)
  have hB0 := Lib.hid (uniW_below w false n d)
  replace kv := Lib.hid kv
  replace kd := Lib.hid kd
  replace ki := Lib.hid ki
  go_enter Tryz.func48, Tryz.ntmps48
  go_wp2_with fail
  refine (kv.out _).mono ?_
  rintro e w1 ⟨rfl, hb⟩
  have q1 := Lib.hid (q0.out.below hb)
  have hB1 := Lib.hid (hB0.out.trans (hb.mono hB0.out.size))
  clear hb
  obtain ⟨a1, a2, a3, a4, a5, a6⟩ := q1.out.facts
  go_wp2_with fail
  refine (kd.out _).mono ?_
  rintro e w2 ⟨rfl, hb⟩
  have q2 := Lib.hid (q1.out.below hb)
  have hB2 := Lib.hid (hB1.out.trans (hb.mono hB1.out.size))
  clear hb a1 a2 a3 a4 a5 a6
  obtain ⟨a1, a2, a3, a4, a5, a6⟩ := q2.out.facts
  go_wp2_with fail
  refine (ki.out _).mono ?_
  rintro e w3 ⟨rfl, hb⟩
  have q3 := Lib.hid (q2.out.below hb)
  have hB3 := Lib.hid (hB2.out.trans (hb.mono hB2.out.size))
  clear hb a1 a2 a3 a4 a5 a6
  obtain ⟨a1, a2, a3, a4, a5, a6⟩ := q3.out.facts
  go_wp2
  go_ret2
  exact ⟨rfl, hB3.out⟩
set_option maxRecDepth 100000 in
set_option maxHeartbeats 2000000 in
theorem RRFloor_pos_er (n d : ByteArray) (q r : ByteArray) (w : World)
    (kv : ∀ W, Calls Tryz.prog 47 #[.agg #[.bool false, .string n, .string d]] W fun e w' => e = .returned (.bool true) ∧ Below W.heap.size W w')
    (kd : ∀ W, Calls Tryz.prog 100 #[.string n, .string d] W fun e w' => e = .returned (.tuple #[.string q, .string r, .int .i64 0]) ∧ Below W.heap.size W w')
    (ki : ∀ W, Calls Tryz.prog 101 #[.string q] W fun e w' => e = .returned (.tuple #[.int .i64 0, .int .i64 10]) ∧ Below W.heap.size W w') :
    Calls Tryz.prog 48 #[.agg #[.bool false, .string n, .string d]] w fun e w' => e = .returned (.tuple #[.int .i64 0, .int .i64 10]) ∧ Below w.heap.size w w' := by
  have q0 := Lib.hid (B3.new w false n d)
  have hB0 := Lib.hid (uniW_below w false n d)
  replace kv := Lib.hid kv
  replace kd := Lib.hid kd
  replace ki := Lib.hid ki
  go_enter Tryz.func48, Tryz.ntmps48
  go_wp2_with fail
  refine (kv.out _).mono ?_
  rintro e w1 ⟨rfl, hb⟩
  have q1 := Lib.hid (q0.out.below hb)
  have hB1 := Lib.hid (hB0.out.trans (hb.mono hB0.out.size))
  clear hb
  obtain ⟨a1, a2, a3, a4, a5, a6⟩ := q1.out.facts
  go_wp2_with fail
  refine (kd.out _).mono ?_
  rintro e w2 ⟨rfl, hb⟩
  have q2 := Lib.hid (q1.out.below hb)
  have hB2 := Lib.hid (hB1.out.trans (hb.mono hB1.out.size))
  clear hb a1 a2 a3 a4 a5 a6
  obtain ⟨a1, a2, a3, a4, a5, a6⟩ := q2.out.facts
  go_wp2_with fail
  refine (ki.out _).mono ?_
  rintro e w3 ⟨rfl, hb⟩
  have q3 := Lib.hid (q2.out.below hb)
  have hB3 := Lib.hid (hB2.out.trans (hb.mono hB2.out.size))
  clear hb a1 a2 a3 a4 a5 a6
  obtain ⟨a1, a2, a3, a4, a5, a6⟩ := q3.out.facts
  go_wp2
  go_ret2
  exact ⟨rfl, hB3.out⟩
set_option maxRecDepth 100000 in
set_option maxHeartbeats 2000000 in
theorem RRFloor_neg0_ok (n d : ByteArray) (q r x : ByteArray) (z : Int) (w : World)
    (kv : ∀ W, Calls Tryz.prog 47 #[.agg #[.bool true, .string n, .string d]] W fun e w' => e = .returned (.bool true) ∧ Below W.heap.size W w')
    (kd : ∀ W, Calls Tryz.prog 100 #[.string n, .string d] W fun e w' => e = .returned (.tuple #[.string q, .string r, .int .i64 0]) ∧ Below W.heap.size W w')
    (ks : ∀ W, Calls Tryz.prog 103 #[.string q, .string ⟨#[49]⟩] W fun e w' => e = .returned (.tuple #[.string x, .int .i64 0]) ∧ Below W.heap.size W w')
    (ki : ∀ W, Calls Tryz.prog 101 #[.string x] W fun e w' => e = .returned (.tuple #[.int .i64 z, .int .i64 0]) ∧ Below W.heap.size W w')
    (hr : (r.toList == [48]) = true)
    (hz0 : 0 ≤ z)
    (hz1 : z ≤ 9223372036854775807) :
    Calls Tryz.prog 48 #[.agg #[.bool true, .string n, .string d]] w fun e w' => e = .returned (.tuple #[.int .i64 (-z - 1), .int .i64 0]) ∧ Below w.heap.size w w' := by
  have q0 := Lib.hid (B3.new w true n d)
  have hB0 := Lib.hid (uniW_below w true n d)
  replace kv := Lib.hid kv
  replace kd := Lib.hid kd
  replace ks := Lib.hid ks
  replace ki := Lib.hid ki
  go_enter Tryz.func48, Tryz.ntmps48
  go_wp2_with fail
  refine (kv.out _).mono ?_
  rintro e w1 ⟨rfl, hb⟩
  have q1 := Lib.hid (q0.out.below hb)
  have hB1 := Lib.hid (hB0.out.trans (hb.mono hB0.out.size))
  clear hb
  obtain ⟨a1, a2, a3, a4, a5, a6⟩ := q1.out.facts
  go_wp2_with fail
  refine (kd.out _).mono ?_
  rintro e w2 ⟨rfl, hb⟩
  have q2 := Lib.hid (q1.out.below hb)
  have hB2 := Lib.hid (hB1.out.trans (hb.mono hB1.out.size))
  clear hb a1 a2 a3 a4 a5 a6
  obtain ⟨a1, a2, a3, a4, a5, a6⟩ := q2.out.facts
  go_wp2_with fail
  refine (ks.out _).mono ?_
  rintro e w3 ⟨rfl, hb⟩
  have q3 := Lib.hid (q2.out.below hb)
  have hB3 := Lib.hid (hB2.out.trans (hb.mono hB2.out.size))
  clear hb a1 a2 a3 a4 a5 a6
  obtain ⟨a1, a2, a3, a4, a5, a6⟩ := q3.out.facts
  go_wp2_with fail
  refine (ki.out _).mono ?_
  rintro e w4 ⟨rfl, hb⟩
  have q4 := Lib.hid (q3.out.below hb)
  have hB4 := Lib.hid (hB3.out.trans (hb.mono hB3.out.size))
  clear hb a1 a2 a3 a4 a5 a6
  obtain ⟨a1, a2, a3, a4, a5, a6⟩ := q4.out.facts
  go_wp2
  go_ret2
  exact ⟨rfl, hB4.out⟩
set_option maxRecDepth 100000 in
set_option maxHeartbeats 2000000 in
theorem RRFloor_neg0_er (n d : ByteArray) (q r x : ByteArray) (w : World)
    (kv : ∀ W, Calls Tryz.prog 47 #[.agg #[.bool true, .string n, .string d]] W fun e w' => e = .returned (.bool true) ∧ Below W.heap.size W w')
    (kd : ∀ W, Calls Tryz.prog 100 #[.string n, .string d] W fun e w' => e = .returned (.tuple #[.string q, .string r, .int .i64 0]) ∧ Below W.heap.size W w')
    (ks : ∀ W, Calls Tryz.prog 103 #[.string q, .string ⟨#[49]⟩] W fun e w' => e = .returned (.tuple #[.string x, .int .i64 0]) ∧ Below W.heap.size W w')
    (ki : ∀ W, Calls Tryz.prog 101 #[.string x] W fun e w' => e = .returned (.tuple #[.int .i64 0, .int .i64 10]) ∧ Below W.heap.size W w')
    (hr : (r.toList == [48]) = true) :
    Calls Tryz.prog 48 #[.agg #[.bool true, .string n, .string d]] w fun e w' => e = .returned (.tuple #[.int .i64 0, .int .i64 10]) ∧ Below w.heap.size w w' := by
  have q0 := Lib.hid (B3.new w true n d)
  have hB0 := Lib.hid (uniW_below w true n d)
  replace kv := Lib.hid kv
  replace kd := Lib.hid kd
  replace ks := Lib.hid ks
  replace ki := Lib.hid ki
  go_enter Tryz.func48, Tryz.ntmps48
  go_wp2_with fail
  refine (kv.out _).mono ?_
  rintro e w1 ⟨rfl, hb⟩
  have q1 := Lib.hid (q0.out.below hb)
  have hB1 := Lib.hid (hB0.out.trans (hb.mono hB0.out.size))
  clear hb
  obtain ⟨a1, a2, a3, a4, a5, a6⟩ := q1.out.facts
  go_wp2_with fail
  refine (kd.out _).mono ?_
  rintro e w2 ⟨rfl, hb⟩
  have q2 := Lib.hid (q1.out.below hb)
  have hB2 := Lib.hid (hB1.out.trans (hb.mono hB1.out.size))
  clear hb a1 a2 a3 a4 a5 a6
  obtain ⟨a1, a2, a3, a4, a5, a6⟩ := q2.out.facts
  go_wp2_with fail
  refine (ks.out _).mono ?_
  rintro e w3 ⟨rfl, hb⟩
  have q3 := Lib.hid (q2.out.below hb)
  have hB3 := Lib.hid (hB2.out.trans (hb.mono hB2.out.size))
  clear hb a1 a2 a3 a4 a5 a6
  obtain ⟨a1, a2, a3, a4, a5, a6⟩ := q3.out.facts
  go_wp2_with fail
  refine (ki.out _).mono ?_
  rintro e w4 ⟨rfl, hb⟩
  have q4 := Lib.hid (q3.out.below hb)
  have hB4 := Lib.hid (hB3.out.trans (hb.mono hB3.out.size))
  clear hb a1 a2 a3 a4 a5 a6
  obtain ⟨a1, a2, a3, a4, a5, a6⟩ := q4.out.facts
  go_wp2
  go_ret2
  exact ⟨rfl, hB4.out⟩
set_option maxRecDepth 100000 in
set_option maxHeartbeats 2000000 in
theorem RRFloor_neg1_ok (n d : ByteArray) (q r x p : ByteArray) (z : Int) (w : World)
    (kv : ∀ W, Calls Tryz.prog 47 #[.agg #[.bool true, .string n, .string d]] W fun e w' => e = .returned (.bool true) ∧ Below W.heap.size W w')
    (kd : ∀ W, Calls Tryz.prog 100 #[.string n, .string d] W fun e w' => e = .returned (.tuple #[.string q, .string r, .int .i64 0]) ∧ Below W.heap.size W w')
    (ka : ∀ W, Calls Tryz.prog 102 #[.string q, .string ⟨#[49]⟩] W fun e w' => e = .returned (.tuple #[.string p, .int .i64 0]) ∧ Below W.heap.size W w')
    (ks : ∀ W, Calls Tryz.prog 103 #[.string p, .string ⟨#[49]⟩] W fun e w' => e = .returned (.tuple #[.string x, .int .i64 0]) ∧ Below W.heap.size W w')
    (ki : ∀ W, Calls Tryz.prog 101 #[.string x] W fun e w' => e = .returned (.tuple #[.int .i64 z, .int .i64 0]) ∧ Below W.heap.size W w')
    (hr : (r.toList == [48]) = false)
    (hz0 : 0 ≤ z)
    (hz1 : z ≤ 9223372036854775807) :
    Calls Tryz.prog 48 #[.agg #[.bool true, .string n, .string d]] w fun e w' => e = .returned (.tuple #[.int .i64 (-z - 1), .int .i64 0]) ∧ Below w.heap.size w w' := by
  have q0 := Lib.hid (B3.new w true n d)
  have hB0 := Lib.hid (uniW_below w true n d)
  replace kv := Lib.hid kv
  replace kd := Lib.hid kd
  replace ka := Lib.hid ka
  replace ks := Lib.hid ks
  replace ki := Lib.hid ki
  go_enter Tryz.func48, Tryz.ntmps48
  go_wp2_with fail
  refine (kv.out _).mono ?_
  rintro e w1 ⟨rfl, hb⟩
  have q1 := Lib.hid (q0.out.below hb)
  have hB1 := Lib.hid (hB0.out.trans (hb.mono hB0.out.size))
  clear hb
  obtain ⟨a1, a2, a3, a4, a5, a6⟩ := q1.out.facts
  go_wp2_with fail
  refine (kd.out _).mono ?_
  rintro e w2 ⟨rfl, hb⟩
  have q2 := Lib.hid (q1.out.below hb)
  have hB2 := Lib.hid (hB1.out.trans (hb.mono hB1.out.size))
  clear hb a1 a2 a3 a4 a5 a6
  obtain ⟨a1, a2, a3, a4, a5, a6⟩ := q2.out.facts
  go_wp2_with fail
  refine (ka.out _).mono ?_
  rintro e w3 ⟨rfl, hb⟩
  have q3 := Lib.hid (q2.out.below hb)
  have hB3 := Lib.hid (hB2.out.trans (hb.mono hB2.out.size))
  clear hb a1 a2 a3 a4 a5 a6
  obtain ⟨a1, a2, a3, a4, a5, a6⟩ := q3.out.facts
  go_wp2_with fail
  refine (ks.out _).mono ?_
  rintro e w4 ⟨rfl, hb⟩
  have q4 := Lib.hid (q3.out.below hb)
  have hB4 := Lib.hid (hB3.out.trans (hb.mono hB3.out.size))
  clear hb a1 a2 a3 a4 a5 a6
  obtain ⟨a1, a2, a3, a4, a5, a6⟩ := q4.out.facts
  go_wp2_with fail
  refine (ki.out _).mono ?_
  rintro e w5 ⟨rfl, hb⟩
  have q5 := Lib.hid (q4.out.below hb)
  have hB5 := Lib.hid (hB4.out.trans (hb.mono hB4.out.size))
  clear hb a1 a2 a3 a4 a5 a6
  obtain ⟨a1, a2, a3, a4, a5, a6⟩ := q5.out.facts
  go_wp2
  go_ret2
  exact ⟨rfl, hB5.out⟩
set_option maxRecDepth 100000 in
set_option maxHeartbeats 2000000 in
theorem RRFloor_neg1_er (n d : ByteArray) (q r x p : ByteArray) (w : World)
    (kv : ∀ W, Calls Tryz.prog 47 #[.agg #[.bool true, .string n, .string d]] W fun e w' => e = .returned (.bool true) ∧ Below W.heap.size W w')
    (kd : ∀ W, Calls Tryz.prog 100 #[.string n, .string d] W fun e w' => e = .returned (.tuple #[.string q, .string r, .int .i64 0]) ∧ Below W.heap.size W w')
    (ka : ∀ W, Calls Tryz.prog 102 #[.string q, .string ⟨#[49]⟩] W fun e w' => e = .returned (.tuple #[.string p, .int .i64 0]) ∧ Below W.heap.size W w')
    (ks : ∀ W, Calls Tryz.prog 103 #[.string p, .string ⟨#[49]⟩] W fun e w' => e = .returned (.tuple #[.string x, .int .i64 0]) ∧ Below W.heap.size W w')
    (ki : ∀ W, Calls Tryz.prog 101 #[.string x] W fun e w' => e = .returned (.tuple #[.int .i64 0, .int .i64 10]) ∧ Below W.heap.size W w')
    (hr : (r.toList == [48]) = false) :
    Calls Tryz.prog 48 #[.agg #[.bool true, .string n, .string d]] w fun e w' => e = .returned (.tuple #[.int .i64 0, .int .i64 10]) ∧ Below w.heap.size w w' := by
  have q0 := Lib.hid (B3.new w true n d)
  have hB0 := Lib.hid (uniW_below w true n d)
  replace kv := Lib.hid kv
  replace kd := Lib.hid kd
  replace ka := Lib.hid ka
  replace ks := Lib.hid ks
  replace ki := Lib.hid ki
  go_enter Tryz.func48, Tryz.ntmps48
  go_wp2_with fail
  refine (kv.out _).mono ?_
  rintro e w1 ⟨rfl, hb⟩
  have q1 := Lib.hid (q0.out.below hb)
  have hB1 := Lib.hid (hB0.out.trans (hb.mono hB0.out.size))
  clear hb
  obtain ⟨a1, a2, a3, a4, a5, a6⟩ := q1.out.facts
  go_wp2_with fail
  refine (kd.out _).mono ?_
  rintro e w2 ⟨rfl, hb⟩
  have q2 := Lib.hid (q1.out.below hb)
  have hB2 := Lib.hid (hB1.out.trans (hb.mono hB1.out.size))
  clear hb a1 a2 a3 a4 a5 a6
  obtain ⟨a1, a2, a3, a4, a5, a6⟩ := q2.out.facts
  go_wp2_with fail
  refine (ka.out _).mono ?_
  rintro e w3 ⟨rfl, hb⟩
  have q3 := Lib.hid (q2.out.below hb)
  have hB3 := Lib.hid (hB2.out.trans (hb.mono hB2.out.size))
  clear hb a1 a2 a3 a4 a5 a6
  obtain ⟨a1, a2, a3, a4, a5, a6⟩ := q3.out.facts
  go_wp2_with fail
  refine (ks.out _).mono ?_
  rintro e w4 ⟨rfl, hb⟩
  have q4 := Lib.hid (q3.out.below hb)
  have hB4 := Lib.hid (hB3.out.trans (hb.mono hB3.out.size))
  clear hb a1 a2 a3 a4 a5 a6
  obtain ⟨a1, a2, a3, a4, a5, a6⟩ := q4.out.facts
  go_wp2_with fail
  refine (ki.out _).mono ?_
  rintro e w5 ⟨rfl, hb⟩
  have q5 := Lib.hid (q4.out.below hb)
  have hB5 := Lib.hid (hB4.out.trans (hb.mono hB4.out.size))
  clear hb a1 a2 a3 a4 a5 a6
  obtain ⟨a1, a2, a3, a4, a5, a6⟩ := q5.out.facts
  go_wp2
  go_ret2
  exact ⟨rfl, hB5.out⟩
theorem rint (k : Nat) (w : World) (hk : k < Lim) : Calls Tryz.prog 101 #[.string (T (some k))] w fun e w' => e = .returned (.tuple #[.int .i64 (if k ≤ 9223372036854775807 then (k : Int) else 0), .int .i64 (if k ≤ 9223372036854775807 then 0 else 10)]) ∧ Below w.heap.size w w' := by
  have h := RefInt_any (T (some k)) w (size_T (ok_some hk))
  have h1 : isN (T (some k)) = true := isN_T (ok_some hk)
  have h2 : val (T (some k)) = k := val_num k
  unfold intV intE at h
  rw [h1, h2] at h
  simpa using h
theorem RRFloor_any (q : Rat) (hq : OkQ q) (w : World) :
    Calls Tryz.prog 48 #[qv q] w fun e w' => e = .returned (.tuple #[.int .i64 (floorV q), .int .i64 (floorE q)]) ∧ Below w.heap.size w w' := by
  have hv := valid_qv hq
  have hz := size_of_valid hv
  have kv := fun W => RRValid_any (decide (q.num < 0)) (T (some q.num.natAbs)) (T (some q.den)) W (by omega) (by omega)
  rw [hv] at kv
  have hd := q.den_nz
  have kd := fun W => rdiv q.num.natAbs q.den W hq.1 hq.2 hd
  have hkl : q.num.natAbs / q.den < Lim := Nat.lt_of_le_of_lt (Nat.div_le_self _ _) hq.1
  have hfl : q.floor = q.num / q.den := Rat.floor_def q
  unfold floorV floorE
  rw [hfl]
  unfold qv
  by_cases hn : q.num < 0
  · rw [decide_eq_true hn] at kv ⊢
    by_cases hr : q.num.natAbs % q.den = 0
    · have hz : q.num / (q.den : Int) = -((q.num.natAbs / q.den : Nat) : Int) := by
        have e : q.num = -((q.num.natAbs : Nat) : Int) := by omega
        conv => lhs; rw [e]
        rw [Int.neg_ediv_of_dvd (Int.ofNat_dvd.2 (Nat.dvd_of_mod_eq_zero hr)), Int.natCast_ediv]
      have hk0 : 0 < q.num.natAbs / q.den := Nat.div_pos (Nat.le_of_dvd (by omega) (Nat.dvd_of_mod_eq_zero hr)) (by omega)
      have hrz : ((T (some (q.num.natAbs % q.den))).toList == [48]) = true := by rw [T_is_zero]; exact decide_eq_true hr
      rw [hz]
      clear hz hfl
      generalize q.num.natAbs / q.den = k at *
      have ks := fun W => rsub k 1 W hkl (by omega) hk0
      rw [T_one] at ks
      have ki := fun W => rint (k - 1) W (by omega)
      by_cases hi : k ≤ 9223372036854775808
      · rw [if_pos (by omega), if_pos (by omega)] at ki
        have hin : InInt (-((k : Nat) : Int)) := ⟨by omega, by omega⟩
        rw [if_pos hin, if_pos hin, show -((k : Nat) : Int) = -(((k - 1 : Nat)) : Int) - 1 by omega]
        exact RRFloor_neg0_ok _ _ _ _ _ _ w kv kd ks ki hrz (by omega) (by omega)
      · rw [if_neg (by omega), if_neg (by omega)] at ki
        have hin : ¬ InInt (-((k : Nat) : Int)) := fun h => hi (by have := h.1; omega)
        rw [if_neg hin, if_neg hin]
        exact RRFloor_neg0_er _ _ _ _ _ w kv kd ks ki hrz
    · have hz : q.num / (q.den : Int) = -((q.num.natAbs / q.den + 1 : Nat) : Int) := by
        have e : q.num = -((q.num.natAbs : Nat) : Int) := by omega
        conv => lhs; rw [e]
        exact neg_ediv_up _ _ (by omega) hr
      have hk1 : q.num.natAbs / q.den + 1 < Lim := by
        have h2 : 2 ≤ q.den := by
          rcases Nat.lt_or_ge q.den 2 with h | h
          · have : q.den = 1 := by omega
            rw [this, Nat.mod_one] at hr
            exact absurd rfl hr
          · exact h
        have h3 : q.num.natAbs / q.den ≤ q.num.natAbs / 2 := Nat.div_le_div_left h2 (by omega)
        generalize q.num.natAbs / q.den = k at *
        have := hq.1
        have := one_lt_Lim
        omega
      have hrz : ((T (some (q.num.natAbs % q.den))).toList == [48]) = false := by rw [T_is_zero]; exact decide_eq_false hr
      rw [hz]
      clear hz hfl
      generalize q.num.natAbs / q.den = k at *
      have ka := fun W => radd k 1 W hkl (by omega) hk1
      rw [T_one] at ka
      have ks := fun W => rsub (k + 1) 1 W hk1 (by omega) (by omega)
      rw [T_one, Nat.add_sub_cancel] at ks
      have ki := fun W => rint k W hkl
      by_cases hi : k ≤ 9223372036854775807
      · rw [if_pos hi, if_pos hi] at ki
        have hin : InInt (-((k + 1 : Nat) : Int)) := ⟨by omega, by omega⟩
        rw [if_pos hin, if_pos hin, show -((k + 1 : Nat) : Int) = -((k : Nat) : Int) - 1 by omega]
        exact RRFloor_neg1_ok _ _ _ _ _ _ _ w kv kd ka ks ki hrz (by omega) (by omega)
      · rw [if_neg hi, if_neg hi] at ki
        have hin : ¬ InInt (-((k + 1 : Nat) : Int)) := fun h => hi (by have := h.1; omega)
        rw [if_neg hin, if_neg hin]
        exact RRFloor_neg1_er _ _ _ _ _ _ w kv kd ka ks ki hrz
  · rw [decide_eq_false hn] at kv ⊢
    have hz : q.num / (q.den : Int) = ((q.num.natAbs / q.den : Nat) : Int) := by
      have e : q.num = ((q.num.natAbs : Nat) : Int) := by omega
      conv => lhs; rw [e]
      rw [Int.natCast_ediv]
    rw [hz]
    clear hz hfl
    generalize q.num.natAbs / q.den = k at *
    have ki := fun W => rint k W hkl
    by_cases hi : k ≤ 9223372036854775807
    · rw [if_pos hi, if_pos hi] at ki
      have hin : InInt ((k : Nat) : Int) := ⟨by omega, by omega⟩
      rw [if_pos hin, if_pos hin]
      exact RRFloor_pos_ok _ _ _ _ _ w kv kd ki
    · rw [if_neg hi, if_neg hi] at ki
      have hin : ¬ InInt ((k : Nat) : Int) := fun h => hi (by have := h.2; omega)
      rw [if_neg hin, if_neg hin]
      exact RRFloor_pos_er _ _ _ _ w kv kd ki
end Nt
end Go.Proofs.YtpmlhgmmobpilaaGreatDoor
namespace Go.Proofs.YtpmlhgmmobpilaaGreatDoor
open Go.RowKit Go.Shelf
namespace Nt
/-- No stroke among the first bytes. -/
def NoStroke (s : ByteArray) (k : Nat) : Prop := ∀ j (h : j < s.size), j < k → s[j].toNat ≠ 47
theorem NoStroke.zero (s : ByteArray) : NoStroke s 0 := fun j _ h => absurd h (by omega)
theorem NoStroke.step {s : ByteArray} {k : Nat} (h : NoStroke s k) (hk : k < s.size) (hb : s[k].toNat ≠ 47) : NoStroke s (k + 1) := fun j hj h1 => by
  by_cases e : j = k
  · subst e; exact hb
  · exact h j hj (by omega)
end Nt
end Go.Proofs.YtpmlhgmmobpilaaGreatDoor
namespace Go.Proofs.YtpmlhgmmobpilaaGreatDoor
open Go.RowKit Go.Shelf
namespace Nt
end Nt
end Go.Proofs.YtpmlhgmmobpilaaGreatDoor

namespace Go.Proofs.YtpmlhgmmobpilaaGreatDoor
open Go.RowKit Go.Shelf
namespace Mo
open Nt
set_option maxRecDepth 100000 in
set_option maxHeartbeats 4000000 in
theorem RRound_bad (g : Bool) (n d : ByteArray) (w : World) (s1 : n.size ≤ 140737488355328) (s2 : d.size ≤ 140737488355328) (hv : validB g n d = false) :
    Calls Tryz.prog 13 #[.agg #[.bool g, .string n, .string d]] w fun e w' => e = .returned (.tuple #[.int .i64 0, .int .i64 1]) ∧ Below w.heap.size w w' := by
  have hB1 : Hid (Below w.heap.size w (w.alloc (.cells #[.bool g, .string n, .string d] 23))) := (Below.refl _ w).alloc (Nat.le_refl _) _
  have hb1 : Hid (B3 (w.alloc (.cells #[.bool g, .string n, .string d] 23)) w.heap.size g n d) := B3.new w g n d
  have kv := Lib.hid (RRValid_any g n d (w.alloc (.cells #[.bool g, .string n, .string d] 23)) s1 s2)
  rw [hv] at kv
  go_enter Tryz.func13, Tryz.ntmps13
  obtain ⟨x0, x1, x2, x3, x4, x5⟩ := hb1.out.facts
  have x9 := hb1.out.lt
  go_wp2_with fail
  refine kv.out.mono ?_
  rintro e w2 ⟨rfl, hb⟩
  have hB2 := Lib.hid (hB1.out.trans (hb.mono hB1.out.size))
  clear hb
  go_wp2
  go_ret2
  exact ⟨rfl, hB2.out⟩
set_option maxRecDepth 100000 in
set_option maxHeartbeats 8000000 in
theorem RRound_short (q : Rat) (hs : ShortQ q) (hfs : ShortQ (q - (q.floor : Rat))) (w : World) :
    Calls Tryz.prog 13 #[qv q] w fun e w' => e = .returned (.tuple #[.int .i64 (roundV q).1, .int .i64 (roundV q).2]) ∧ Below w.heap.size w w' := by
  have hq := hs.ok
  have hsz := short_sizes hs
  have hv := valid_qv hq
  have s1 := T_size _ hq.1; have s2 := T_size _ hq.2
  obtain ⟨g, hg⟩ : ∃ g, g = decide (q.num < 0) := ⟨_, rfl⟩
  obtain ⟨n, hn⟩ : ∃ n, n = T (some q.num.natAbs) := ⟨_, rfl⟩
  obtain ⟨d, hd⟩ : ∃ d, d = T (some q.den) := ⟨_, rfl⟩
  have hqv : qv q = .agg #[.bool g, .string n, .string d] := by rw [hg, hn, hd]; rfl
  have kf : Hid (∀ W, Calls Tryz.prog 48 #[.agg #[.bool g, .string n, .string d]] W fun e w' => e = .returned (.tuple #[.int .i64 (floorV q), .int .i64 (floorE q)]) ∧ Below W.heap.size W w') := fun W => by rw [← hqv]; exact RRFloor_any q hq W
  rw [← hg, ← hn, ← hd] at hv
  rw [← hn, ← hd] at hsz
  rw [← hn] at s1; rw [← hd] at s2
  rw [hqv]
  clear hg hn hd
  have hB1 : Hid (Below w.heap.size w (w.alloc (.cells #[.bool g, .string n, .string d] 23))) := (Below.refl _ w).alloc (Nat.le_refl _) _
  have hb1 : Hid (B3 (w.alloc (.cells #[.bool g, .string n, .string d] 23)) w.heap.size g n d) := B3.new w g n d
  have kv := Lib.hid (RRValid_any g n d (w.alloc (.cells #[.bool g, .string n, .string d] 23)) (by omega) (by omega))
  rw [hv] at kv
  have m1 : decide (140 < (n.size : Int)) = false := decide_eq_false (by omega); have m2 : decide (140 < (d.size : Int)) = false := decide_eq_false (by omega)
  skip
  by_cases hfl : InInt q.floor ∧ q.floor ≠ 9223372036854775807
  rotate_left
  · have hr : roundV q = (0, 10) := by unfold roundV; rw [if_neg hfl]
    rw [hr]
    by_cases hin : InInt q.floor
    · have hmx : q.floor = 9223372036854775807 := Decidable.byContradiction fun c => hfl ⟨hin, c⟩
      have e1 : floorV q = 9223372036854775807 := by unfold floorV; rw [if_pos hin, hmx]
      have e2 : floorE q = 0 := by unfold floorE; rw [if_pos hin]
      rw [e1, e2] at kf
      clear hr e1 e2 hin hmx hfl hfs
      go_enter Tryz.func13, Tryz.ntmps13
      obtain ⟨x0, x1, x2, x3, x4, x5⟩ := hb1.out.facts
      have x9 := hb1.out.lt
      go_wp2_with fail
      refine kv.out.mono ?_
      rintro e w2 ⟨rfl, hb⟩
      have hB2 := Lib.hid (hB1.out.trans (hb.mono hB1.out.size)); have hb2 := Lib.hid (hb1.out.below hb)
      clear hb x0 x1 x2 x3 x4 x5 x9 kv
      obtain ⟨x0, x1, x2, x3, x4, x5⟩ := hb2.out.facts
      have x9 := hb2.out.lt
      have kF := Lib.hid (kf.out w2)
      go_wp2_with fail
      refine kF.out.mono ?_
      rintro e w3 ⟨rfl, hb⟩
      have hB3 := Lib.hid (hB2.out.trans (hb.mono hB2.out.size)); have hb3 := Lib.hid (hb2.out.below hb)
      clear hb hb2 x0 x1 x2 x3 x4 x5 x9 kF kf
      go_wp2
      go_ret2
      exact ⟨rfl, hB3.out⟩
    · have e1 : floorV q = 0 := by unfold floorV; rw [if_neg hin]
      have e2 : floorE q = 10 := by unfold floorE; rw [if_neg hin]
      rw [e1, e2] at kf
      clear hr e1 e2 hin hfl hfs
      go_enter Tryz.func13, Tryz.ntmps13
      obtain ⟨x0, x1, x2, x3, x4, x5⟩ := hb1.out.facts
      have x9 := hb1.out.lt
      go_wp2_with fail
      refine kv.out.mono ?_
      rintro e w2 ⟨rfl, hb⟩
      have hB2 := Lib.hid (hB1.out.trans (hb.mono hB1.out.size)); have hb2 := Lib.hid (hb1.out.below hb)
      clear hb x0 x1 x2 x3 x4 x5 x9 kv
      obtain ⟨x0, x1, x2, x3, x4, x5⟩ := hb2.out.facts
      have x9 := hb2.out.lt
      have kF := Lib.hid (kf.out w2)
      go_wp2_with fail
      refine kF.out.mono ?_
      rintro e w3 ⟨rfl, hb⟩
      have hB3 := Lib.hid (hB2.out.trans (hb.mono hB2.out.size)); have hb3 := Lib.hid (hb2.out.below hb)
      clear hb hb2 x0 x1 x2 x3 x4 x5 x9 kF kf
      go_wp2
      go_ret2
      exact ⟨rfl, hB3.out⟩
  · have hr : roundV q = (roundQ q, 0) := by unfold roundV; rw [if_pos hfl]
    rw [hr]
    obtain ⟨⟨hi0, hi1⟩, hmx⟩ := hfl
    have e1 : floorV q = q.floor := by unfold floorV; rw [if_pos ⟨hi0, hi1⟩]
    have e2 : floorE q = 0 := by unfold floorE; rw [if_pos ⟨hi0, hi1⟩]
    rw [e1, e2] at kf
    have hrq : roundQ q = if 0 < cmpQ q ((q.floor : Rat) + halfQ) ∨ (cmpQ q ((q.floor : Rat) + halfQ) = 0 ∧ q.floor.tmod 2 ≠ 0) then q.floor + 1 else q.floor := rfl
    rw [hrq]
    generalize q.floor = N at hi0 hi1 hmx kf hfs ⊢
    clear hr e1 e2 hrq
    have hN1 : N + 1 ≤ 9223372036854775807 := by omega
    obtain ⟨g1, n1, d1, q1⟩ := agg_qv (N : Rat)
    obtain ⟨g2, n2, d2, q2⟩ := agg_qv halfQ
    obtain ⟨g3, n3, d3, q3⟩ := agg_qv (q - (N : Rat))
    have ko1 : Hid (∀ W, Calls Tryz.prog 49 #[.int .i64 N, .int .i64 1] W fun e w' => e = .returned (.tuple #[.agg #[.bool g1, .string n1, .string d1], .int .i64 0]) ∧ Below W.heap.size W w') := fun W => by have h := RROf_any N 1 hi0 hi1 (by omega) (by omega) (by omega) W; rw [ofQ_one, q1] at h; exact h
    have ko2 : Hid (∀ W, Calls Tryz.prog 49 #[.int .i64 1, .int .i64 2] W fun e w' => e = .returned (.tuple #[.agg #[.bool g2, .string n2, .string d2], .int .i64 0]) ∧ Below W.heap.size W w') := fun W => by have h := RROf_any 1 2 (by omega) (by omega) (by omega) (by omega) (by omega) W; rw [ofQ_half, q2] at h; exact h
    have ka : Hid (∀ W, Calls Tryz.prog 50 #[.agg #[.bool g, .string n, .string d], .agg #[.bool g1, .string n1, .string d1]] W fun e w' => e = .returned (.tuple #[.agg #[.bool g3, .string n3, .string d3], .int .i64 0]) ∧ Below W.heap.size W w') := fun W => by have h := RRSub_short q (N : Rat) hs (short_int hi0 hi1) W; rw [hqv, q1, q3] at h; exact h
    have kc : Hid (∀ W, Calls Tryz.prog 51 #[.agg #[.bool g3, .string n3, .string d3], .agg #[.bool g2, .string n2, .string d2]] W fun e w' => e = .returned (.tuple #[.int .i64 (cmpQ q ((N : Rat) + halfQ)), .int .i64 0]) ∧ Below W.heap.size W w') := fun W => by have h := RRCompare_short (q - (N : Rat)) halfQ hfs short_half W; rw [q3, q2, cmp_mid] at h; exact h
    generalize cmpQ q ((N : Rat) + halfQ) = c at kc ⊢
    obtain ⟨res, hres⟩ : ∃ r, r = if 0 < c ∨ (c = 0 ∧ N.tmod 2 ≠ 0) then N + 1 else N := ⟨_, rfl⟩
    rw [← hres]
    replace hres := Lib.hid hres
    clear hs hfs hsz hqv hq q1 q2 q3 hv
    have t1 : (N == 9223372036854775807) = false := by rw [beq_eq_false_iff_ne]; exact hmx
    go_enter Tryz.func13, Tryz.ntmps13
    obtain ⟨x0, x1, x2, x3, x4, x5⟩ := hb1.out.facts
    have x9 := hb1.out.lt
    go_wp2_with fail
    refine kv.out.mono ?_
    rintro e w2 ⟨rfl, hb⟩
    have hB2 := Lib.hid (hB1.out.trans (hb.mono hB1.out.size)); have hb2 := Lib.hid (hb1.out.below hb)
    clear hb x0 x1 x2 x3 x4 x5 x9 kv
    obtain ⟨x0, x1, x2, x3, x4, x5⟩ := hb2.out.facts
    have x9 := hb2.out.lt
    have kF := Lib.hid (kf.out w2)
    go_wp2_with fail
    refine kF.out.mono ?_
    rintro e w3 ⟨rfl, hb⟩
    have hB3 := Lib.hid (hB2.out.trans (hb.mono hB2.out.size)); have hb3 := Lib.hid (hb2.out.below hb)
    clear hb hb2 x0 x1 x2 x3 x4 x5 x9 kF kf
    have k1 := Lib.hid (ko1.out w3)
    go_wp2_with fail
    refine k1.out.mono ?_
    rintro e w4 ⟨rfl, hb⟩
    have hB4 := Lib.hid (hB3.out.trans (hb.mono hB3.out.size)); have hb4 := Lib.hid (hb3.out.below hb)
    clear hb hb3 k1 ko1
    have hB5 : Hid (Below w.heap.size w (w4.alloc (.cells #[.bool g1, .string n1, .string d1] 23))) := hB4.out.alloc hB4.out.size _
    have hb5 := Lib.hid (hb4.out.alloc (.cells #[.bool g1, .string n1, .string d1] 23))
    have hp5 : Hid (B3 (w4.alloc (.cells #[.bool g1, .string n1, .string d1] 23)) w4.heap.size g1 n1 d1) := B3.new w4 g1 n1 d1
    clear hB4 hb4
    have k2 := Lib.hid (ko2.out (w4.alloc (.cells #[.bool g1, .string n1, .string d1] 23)))
    go_wp2_with fail
    refine k2.out.mono ?_
    rintro e w6 ⟨rfl, hb⟩
    have hB6 := Lib.hid (hB5.out.trans (hb.mono hB5.out.size)); have hb6 := Lib.hid (hb5.out.below hb); have hp6 := Lib.hid (hp5.out.below hb)
    clear hb hB5 hb5 hp5 k2 ko2
    have hB7 : Hid (Below w.heap.size w (w6.alloc (.cells #[.bool g2, .string n2, .string d2] 23))) := hB6.out.alloc hB6.out.size _
    have hb7 := Lib.hid (hb6.out.alloc (.cells #[.bool g2, .string n2, .string d2] 23))
    have hp7 := Lib.hid (hp6.out.alloc (.cells #[.bool g2, .string n2, .string d2] 23))
    have hr7 : Hid (B3 (w6.alloc (.cells #[.bool g2, .string n2, .string d2] 23)) w6.heap.size g2 n2 d2) := B3.new w6 g2 n2 d2
    have k3 := Lib.hid (ka.out (w6.alloc (.cells #[.bool g2, .string n2, .string d2] 23)))
    obtain ⟨y0, y1, y2, y3, y4, y5⟩ := hp6.out.facts
    have y9 := hp6.out.lt
    obtain ⟨x0, x1, x2, x3, x4, x5⟩ := hb6.out.facts
    have x9 := hb6.out.lt
    clear hB6 hb6 hp6
    go_wp2_with fail
    refine k3.out.mono ?_
    rintro e w8 ⟨rfl, hb⟩
    have hB8 := Lib.hid (hB7.out.trans (hb.mono hB7.out.size)); have hr8 := Lib.hid (hr7.out.below hb)
    clear hb hB7 hb7 hp7 hr7 k3 ka x0 x1 x2 x3 x4 x5 x9 y0 y1 y2 y3 y4 y5 y9
    have hB9 : Hid (Below w.heap.size w (w8.alloc (.cells #[.bool g3, .string n3, .string d3] 23))) := hB8.out.alloc hB8.out.size _
    have k4 := Lib.hid (kc.out (w8.alloc (.cells #[.bool g3, .string n3, .string d3] 23)))
    obtain ⟨z0, z1, z2, z3, z4, z5⟩ := hr8.out.facts
    have z9 := hr8.out.lt
    clear hB8 hr8
    go_wp2_with fail
    refine k4.out.mono ?_
    rintro e w10 ⟨rfl, hb⟩
    have hB10 := Lib.hid (hB9.out.trans (hb.mono hB9.out.size))
    clear hb hB9 k4 kc z0 z1 z2 z3 z4 z5 z9
    by_cases c1 : 0 < c
    · obtain rfl : res = N + 1 := by rw [hres.out, if_pos (.inl c1)]
      have v1 : decide (0 < c) = true := decide_eq_true c1
      replace c1 := Lib.hid c1
      clear hres
      go_wp2
      go_ret2
      exact ⟨rfl, hB10.out⟩
    · have v1 : decide (0 < c) = false := decide_eq_false c1
      by_cases c2 : c = 0 ∧ N.tmod 2 ≠ 0
      · obtain rfl : res = N + 1 := by rw [hres.out, if_pos (.inr c2)]
        have v2 : (c == 0) = true := by rw [beq_iff_eq]; exact c2.1
        have v3 : (N.tmod 2 != 0) = true := by rw [bne_iff_ne]; exact c2.2
        replace c1 := Lib.hid c1; replace c2 := Lib.hid c2
        clear hres
        go_wp2
        go_ret2
        exact ⟨rfl, hB10.out⟩
      · obtain rfl : N = res := by rw [hres.out, if_neg fun h => h.elim c1 c2]
        by_cases c3 : c = 0
        · have v2 : (c == 0) = true := by rw [beq_iff_eq]; exact c3
          have v3 : (N.tmod 2 != 0) = false := by rw [bne_eq_false_iff_eq]; exact Decidable.byContradiction fun h => c2 ⟨c3, h⟩
          replace c1 := Lib.hid c1; replace c2 := Lib.hid c2; replace c3 := Lib.hid c3
          clear hres
          go_wp2
          go_ret2
          exact ⟨rfl, hB10.out⟩
        · have v2 : (c == 0) = false := by rw [beq_eq_false_iff_ne]; exact c3
          replace c1 := Lib.hid c1; replace c2 := Lib.hid c2; replace c3 := Lib.hid c3
          clear hres
          go_wp2
          go_ret2
          exact ⟨rfl, hB10.out⟩
end Mo
end Go.Proofs.YtpmlhgmmobpilaaGreatDoor

namespace Go.Proofs.YtpmlhgmmobpilaaGreatDoor
open Go.RowKit Go.Shelf
namespace Mo
open Nt Ci
theorem frac_short {q : Rat} (h : ShortQ q) : ShortQ (q - (q.floor : Rat)) := by
  obtain ⟨f1, f2⟩ := floor_bounds q
  obtain ⟨n, hn⟩ : ∃ n, n = q.floor := ⟨_, rfl⟩
  rw [← hn] at f1 f2 ⊢
  have hd : (q.den : Rat) ≠ 0 := by
    have : (0 : Rat) < (q.den : Rat) := Rat.natCast_pos.2 q.den_pos
    grind
  have e : q - (n : Rat) = mkRat (q.num - n * q.den) q.den := by
    have hq := Rat.mkRat_self q
    rw [Rat.mkRat_eq_div] at hq
    rw [Rat.mkRat_eq_div, Rat.intCast_sub, Rat.intCast_mul, Rat.intCast_natCast]
    rw [Rat.div_def] at hq ⊢
    have hi := Rat.mul_inv_cancel _ hd
    generalize (q.den : Rat) = D at *
    generalize (q.num : Rat) = N at *
    generalize (n : Rat) = K at *
    have e1 : (N - K * D) * D⁻¹ = N * D⁻¹ - K * (D * D⁻¹) := by grind
    rw [e1, hi, hq]
    grind
  have g1 := (Rat.le_iff _ _).1 f1
  have f3 : q < ((n + 1 : Int) : Rat) := by rw [Rat.intCast_add]; exact f2
  have g2 := (Rat.lt_iff _ _).1 f3
  have a1 : ((n : Rat)).num = n := Rat.num_intCast n
  have a2 : ((n : Rat)).den = 1 := Rat.den_intCast n
  have a3 : (((n + 1 : Int) : Rat)).num = n + 1 := Rat.num_intCast _
  have a4 : (((n + 1 : Int) : Rat)).den = 1 := Rat.den_intCast _
  rw [a1, a2] at g1
  rw [a3, a4] at g2
  have hm := mkRat_le (q.num - n * q.den) q.den (by have := q.den_pos; omega)
  rw [← e] at hm
  have hx : (q.num - n * q.den).natAbs < q.den := by
    have : (n + 1) * (q.den : Int) = n * q.den + q.den := by rw [Int.add_mul, Int.one_mul]
    omega
  exact ⟨Nat.lt_of_le_of_lt hm.1 (Nat.lt_trans hx h.2), Nat.lt_of_le_of_lt hm.2 h.2⟩
theorem rounds_both (g : Bool) (n d : ByteArray) (s1 : n.size ≤ 60) (s2 : d.size ≤ 60) : ∃ m er : Int,
    (∀ W, Env W → Calls Tryz.prog 12 #[.agg #[.bool g, .string n, .string d]] W fun e w' => e = .returned (.tuple #[.int .i64 m, .int .i64 er]) ∧ Below W.heap.size W w') ∧
    (∀ W, Calls Tryz.prog 13 #[.agg #[.bool g, .string n, .string d]] W fun e w' => e = .returned (.tuple #[.int .i64 m, .int .i64 er]) ∧ Below W.heap.size W w') := by
  cases hv : validB g n d with
  | false => exact ⟨0, 1, fun W hW => Round_bad g n d W hW (by omega) (by omega) hv, fun W => RRound_bad g n d W (by omega) (by omega) hv⟩
  | true =>
    obtain ⟨q, hq, rfl, rfl, rfl⟩ := of_valid hv
    have hs : ShortQ q := short_of_sizes (by omega) (by omega)
    exact ⟨(roundV q).1, (roundV q).2, fun W hW => Round_short q hs W hW, fun W => RRound_short q hs (frac_short hs) W⟩
set_option maxRecDepth 100000 in
set_option maxHeartbeats 8000000 in
theorem law8_splitsm (g : Bool) (n d : ByteArray) (units : Int) (A : Option Addr) (c : Nat) (parts : List Int) (w : World) (hE : Env w) (s1 : n.size ≤ 140737488355328) (s2 : d.size ≤ 140737488355328) (hp : InInt w A parts) (hpl : parts.length ≤ 140737488355328) :
    Calls Tryz.prog 3 #[.agg #[.bool g, .string n, .string d], .int .i64 units, .slice A parts.length c] w fun e w' => e = .returned (.bool true) ∧ Below w.heap.size w w' := by
  have hB1 : Hid (Below w.heap.size w (w.alloc (.cells #[.bool g, .string n, .string d] 23))) := (Below.refl _ w).alloc (Nat.le_refl _) _
  have hr1 : Hid (Bk (w.alloc (.cells #[.bool g, .string n, .string d] 23)) w.heap.size 23 [.bool g, .string n, .string d]) := Bk.new _ _ _
  have kh := Lib.hid (head8_any (w.alloc (.cells #[.bool g, .string n, .string d] 23)) (hE.below hB1.out))
  have kb := Lib.hid (fun a b => rounds_both g n d a b)
  have kx := Lib.hid (fun h W (hW : Below w.heap.size w W) => Split_any units A c parts W (hp.below hW) h)
  have ky := Lib.hid (fun h W (hW : Below w.heap.size w W) => RSplit_any units A c parts W (hp.below hW) h)
  replace hE := Lib.hid hE; replace hp := Lib.hid hp
  by_cases c1 : 60 < n.size
  · have m1 : decide (60 < (n.size : Int)) = true := decide_eq_true (by omega)
    clear kb kx ky
    go_enter Tryz.func3, Tryz.ntmps3
    go_wp2_with fail
    refine kh.out.mono ?_
    rintro e w2 ⟨rfl, hb⟩
    have hB2 := Lib.hid (hB1.out.trans (hb.mono hB1.out.size)); have hr2 := Lib.hid (hr1.out.below hb)
    clear hb hB1 hr1 kh
    have x1 := hr2.out.cell (j := 1) rfl; have x2 := hr2.out.cell (j := 2) rfl; have x9 := hr2.out.lt
    go_wp2
    go_ret
    exact ⟨rfl, hB2.out⟩
  · have m1 : decide (60 < (n.size : Int)) = false := decide_eq_false (by omega)
    by_cases c2 : 60 < d.size
    · have m2 : decide (60 < (d.size : Int)) = true := decide_eq_true (by omega)
      clear kb kx ky
      go_enter Tryz.func3, Tryz.ntmps3
      go_wp2_with fail
      refine kh.out.mono ?_
      rintro e w2 ⟨rfl, hb⟩
      have hB2 := Lib.hid (hB1.out.trans (hb.mono hB1.out.size)); have hr2 := Lib.hid (hr1.out.below hb)
      clear hb hB1 hr1 kh
      have x1 := hr2.out.cell (j := 1) rfl; have x2 := hr2.out.cell (j := 2) rfl; have x9 := hr2.out.lt
      go_wp2
      go_ret
      exact ⟨rfl, hB2.out⟩
    · have m2 : decide (60 < (d.size : Int)) = false := decide_eq_false (by omega)
      by_cases c3 : 30 < parts.length
      · have m3 : decide (30 < (parts.length : Int)) = true := decide_eq_true (by omega)
        clear kb kx ky
        go_enter Tryz.func3, Tryz.ntmps3
        go_wp2_with fail
        refine kh.out.mono ?_
        rintro e w2 ⟨rfl, hb⟩
        have hB2 := Lib.hid (hB1.out.trans (hb.mono hB1.out.size)); have hr2 := Lib.hid (hr1.out.below hb)
        clear hb hB1 hr1 kh
        have x1 := hr2.out.cell (j := 1) rfl; have x2 := hr2.out.cell (j := 2) rfl; have x9 := hr2.out.lt
        go_wp2
        go_ret
        exact ⟨rfl, hB2.out⟩
      · have m3 : decide (30 < (parts.length : Int)) = false := decide_eq_false (by omega)
        obtain ⟨m, er, kr, krr⟩ := kb.out (by omega) (by omega)
        replace kr := Lib.hid kr; replace krr := Lib.hid krr
        have kx2 := Lib.hid (kx.out (by omega)); have ky2 := Lib.hid (ky.out (by omega))
        have hol : Hid ((splitL units parts).length ≤ parts.length) := by
          unfold splitL Hid
          split
          · rw [split_len]; exact Nat.le_refl _
          · exact Nat.zero_le _
        unfold SpPost at kx2 ky2
        generalize splitL units parts = out at kx2 ky2 hol
        generalize splitE units parts = se at kx2 ky2
        clear kb kx ky
        go_enter Tryz.func3, Tryz.ntmps3
        go_wp2_with fail
        refine kh.out.mono ?_
        rintro e w2 ⟨rfl, hb⟩
        have hB2 := Lib.hid (hB1.out.trans (hb.mono hB1.out.size)); have hr2 := Lib.hid (hr1.out.below hb)
        clear hb hB1 hr1 kh
        have x0 := hr2.out.cell (j := 0) rfl; have x1 := hr2.out.cell (j := 1) rfl; have x2 := hr2.out.cell (j := 2) rfl; have x9 := hr2.out.lt
        have k2 := Lib.hid (kr.out w2 (hE.out.below hB2.out))
        clear kr
        go_wp2_with fail
        refine k2.out.mono ?_
        rintro e w3 ⟨rfl, hb⟩
        have hB3 := Lib.hid (hB2.out.trans (hb.mono hB2.out.size)); have hr3 := Lib.hid (hr2.out.below hb)
        clear hb hB2 hr2 k2 x0 x1 x2 x9
        have x0 := hr3.out.cell (j := 0) rfl; have x1 := hr3.out.cell (j := 1) rfl; have x2 := hr3.out.cell (j := 2) rfl; have x9 := hr3.out.lt
        have k3 := Lib.hid (krr.out w3)
        clear krr
        go_wp2_with fail
        refine k3.out.mono ?_
        rintro e w4 ⟨rfl, hb⟩
        have hB4 := Lib.hid (hB3.out.trans (hb.mono hB3.out.size))
        clear hb hB3 hr3 k3 x0 x1 x2 x9
        have k4 := Lib.hid (kx2.out w4 hB4.out)
        go_wp2_with fail
        refine k4.out.mono ?_
        rintro e w5 ⟨⟨B5, d5, rfl, hI5⟩, hb⟩
        have hB5 := Lib.hid (hB4.out.trans (hb.mono hB4.out.size))
        replace hI5 := Lib.hid hI5
        clear hb hB4 k4 kx2
        have k5 := Lib.hid (ky2.out w5 hB5.out)
        go_wp2_with fail
        refine k5.out.mono ?_
        rintro e w6 ⟨⟨B6, d6, rfl, hI6⟩, hb⟩
        have hB6 := Lib.hid (hB5.out.trans (hb.mono hB5.out.size))
        have hI7 := Lib.hid (hI5.out.below hb)
        replace hI6 := Lib.hid hI6
        clear hb hB5 k5 ky2 hI5
        have k7 := Ints8_any B5 B6 d5 d6 out out w6 hI7.out hI6.out (by have := hol.out; omega)
        rw [decide_eq_true (rfl : out = out)] at k7
        replace k7 := Lib.hid k7
        have t1 : (m == m) = true := beq_self_eq_true m
        have t2 : (er == er) = true := beq_self_eq_true er
        have t3 : (se == se) = true := beq_self_eq_true se
        go_wp2_with fail
        refine k7.out.mono ?_
        rintro e w8 ⟨rfl, q, rfl⟩
        go_wp2
        go_ret
        exact ⟨rfl, ⟨hB6.out.os, hB6.out.tape, hB6.out.output, hB6.out.size, hB6.out.block⟩⟩
end Mo
end Go.Proofs.YtpmlhgmmobpilaaGreatDoor

namespace Go.Proofs.YtpmlhgmmobpilaaGreatDoor
open Go.ChangeShapes Go.WideShapes Go.ChangeAt Go.RowKit Go.Shelf Go.Joins
namespace Mo
section
variable {H : Type} {enc : TypeId × Value → H} {w : World} {base : Nat} {spare : Nat → Bool} {held : Bool}
set_option maxRecDepth 100000 in
theorem cells_amt : Tryz.prog.cellsOf 35 = 2 := by kernel_rfl
set_option maxRecDepth 100000 in
theorem open_amt {r : Reach} {b0 : Nat} {v : Value} {d : DataW H} {p : List MemPlace} (hv : Value.okWide Tryz.prog w r b0 35 v) (h : DataW.Trod enc Tryz.prog w base spare held 35 v d p) :
    ∃ (c : ByteArray) (u : Int), v = .agg #[.string c, .int .i64 u] ∧ d = .agg [.lit (.string c.data.toList), .lit (.int .i64 u)] ∧ p = [] ∧ c.size ≤ maxLen ∧ (Lit.int .i64 u).wf = true := by
  obtain ⟨c0, c1, y0, y1, m, rfl, rfl, rfl, hy0, hy1⟩ := open_agg2 Tryz.underlying35 (by kernel_rfl) cells_amt hv h
  obtain ⟨c, e0, rfl, wn⟩ := DataW.trod_string Tryz.underlying9 hy0
  obtain ⟨u, e1, rfl, wu⟩ := DataW.trod_int Tryz.underlying3 hy1
  simp at e0 e1
  subst e0 e1
  exact ⟨c, u, rfl, rfl, rfl, wn, wu⟩
end
set_option maxRecDepth 100000 in
theorem size_amt {H : Type} {ts : List TypeId} {ds : List (DataW H)} {j : Nat} {c : ByteArray} {u : Int} (hsz : (DataW.weightsEach Tryz.prog ts ds).all (· ≤ reachBytes) = true) (ht : ts[j]? = some 35)
    (hd : ds[j]? = some (.agg [.lit (.string c.data.toList), .lit (.int .i64 u)])) : c.size ≤ 140737488355328 := by
  have hm := DataW.weights_mem_each (P := Tryz.prog) ht hd
  have h1 : c.data.toList.length ≤ 140737488351232 := of_decide_eq_true (List.all_eq_true.1 hsz _ (hm _ (by simp [DataW.weights, DataW.weightsEach, Tryz.underlying35])))
  have z1 : c.size = c.data.toList.length := Lib.size_eq _
  omega
set_option maxRecDepth 100000 in
theorem size_str {H : Type} {ts : List TypeId} {ds : List (DataW H)} {j : Nat} {c : ByteArray} (hsz : (DataW.weightsEach Tryz.prog ts ds).all (· ≤ reachBytes) = true) (ht : ts[j]? = some 9)
    (hd : ds[j]? = some (.lit (.string c.data.toList))) : c.size ≤ 140737488355328 := by
  have hm := DataW.weights_mem_each (P := Tryz.prog) ht hd
  have h1 : c.data.toList.length ≤ 140737488351232 := of_decide_eq_true (List.all_eq_true.1 hsz _ (hm _ (by simp [DataW.weights])))
  have z1 : c.size = c.data.toList.length := Lib.size_eq _
  omega
end Mo
end Go.Proofs.YtpmlhgmmobpilaaGreatDoor

namespace Go.Proofs.YtpmlhgmmobpilaaGreatDoor
open Go.ChangeShapes Go.WideShapes Go.ChangeAt Go.RowKit Go.Shelf Go.Joins Go.Deep
namespace Mo
open Nt Ci
def rtD {H : Type} (x : Rt) : DataW H := .agg [.lit (.string x.1.data.toList), .lit (.int .i64 x.2.1), .lit (.int .i64 x.2.2.1), .lit (.int .i64 x.2.2.2)]
section
variable {H : Type} {enc : TypeId × Value → H} {w : World} {base : Nat} {held : Bool}
set_option maxRecDepth 100000 in
theorem cells_rt : Tryz.prog.cellsOf 42 = 4 := by kernel_rfl
set_option maxRecDepth 100000 in
theorem open_rts {fuel : Nat} {cs : List Value} {x : DataW H × List MemPlace} (h : DataW.trod enc Tryz.prog w base (fun _ => true) held fuel 33 cs = some x) :
    ∃ (A : Option Addr) (cap : Nat) (l : List Rt), cs = [.slice A l.length cap] ∧ isSl rtD l x.1 ∧ InRt w A l ∧ ∀ y, y ∈ l → in64 y.2.1 ∧ in64 y.2.2.1 ∧ in64 y.2.2.2 := by
  rcases open_slice Tryz.underlying33 h with ⟨h1, h2⟩ | ⟨a, len, cap, m, n, D, Pl, hcs, hb, hl, hm, hmm, hx, hi⟩
  · exact ⟨none, 0, [], h1, .inl ⟨by rw [h2], rfl⟩, fun h => absurd h (by simp), fun y hy => by cases hy⟩
  · simp only [if_true] at hmm
    subst hmm
    have each : ∀ i, i < m → ∃ y : Rt, D i = rtD y ∧ (w.cell? (a.add (i * 4)) = some (.string y.1) ∧ w.cell? (a.add (i * 4 + 1)) = some (.int .i64 y.2.1) ∧ w.cell? (a.add (i * 4 + 2)) = some (.int .i64 y.2.2.1) ∧ w.cell? (a.add (i * 4 + 3)) = some (.int .i64 y.2.2.2)) ∧ in64 y.2.1 ∧ in64 y.2.2.1 ∧ in64 y.2.2.2 := by
      intro i him
      obtain ⟨cs', hc, ht'⟩ := hi i him
      rw [cells_rt] at hc
      obtain ⟨y0, y1, y2, y3, n', hy, _, t0, t1, t2, t3⟩ := trod_struct4 Tryz.underlying42 ht'
      obtain ⟨_, hcl, hat⟩ := World.cells?_some hc
      match cs', hcl with
      | [c0, c1, c2, c3], _ =>
        have g0 := hat 0 (by omega)
        have g1 := hat 1 (by omega)
        have g2 := hat 2 (by omega)
        have g3 := hat 3 (by omega)
        rw [Go.Deep.add_add] at g0 g1 g2 g3
        obtain ⟨a0, e0, k0, _⟩ := DataW.trod_string Tryz.underlying9 t0
        obtain ⟨a1, e1, k1, f1⟩ := DataW.trod_int Tryz.underlying3 t1
        obtain ⟨a2, e2, k2, f2⟩ := DataW.trod_int Tryz.underlying3 t2
        obtain ⟨a3, e3, k3, f3⟩ := DataW.trod_int Tryz.underlying3 t3
        simp only [Prod.mk.injEq] at hy
        have s1 : Tryz.prog.cellsOf 3 = 1 := by kernel_rfl
        have s3 : Tryz.prog.cellsOf 9 = 1 := by kernel_rfl
        have b0 : c0 = .string a0 := by simpa [s1, s3] using e0
        have b1 : c1 = .int .i64 a1 := by simpa [s1, s3] using e1
        have b2 : c2 = .int .i64 a2 := by simpa [s1, s3] using e2
        have b3 : c3 = .int .i64 a3 := by simpa [s1, s3] using e3
        subst b0 b1 b2 b3
        refine ⟨(a0, a1, a2, a3), ?_, ⟨by simpa using g0, by simpa using g1, by simpa using g2, by simpa using g3⟩, i64_in f1, i64_in f2, i64_in f3⟩
        rw [hy.1, k0, k1, k2, k3]
        rfl
    obtain ⟨Y, hY⟩ := choose_lt each
    refine ⟨some a, m, (List.range len).map Y, by simpa using hcs, .inr ⟨_, by rw [hx, List.map_map]; simp only []; congr 1; exact List.map_congr_left fun i hi2 => (hY i (by have := List.mem_range.1 hi2; omega)).1⟩, fun h0 => ?_, fun y hy => ?_⟩
    · simp only [List.length_map, List.length_range] at h0
      have h00 := (hY 0 (by omega)).2.1.1
      have hsp := World.cell?_spot h00
      obtain ⟨b, o, s⟩ := a
      have hs : s = none := by simpa [Addr.add] using hsp
      subst hs
      refine ⟨b, o, rfl, ?_, fun j hj => ?_⟩
      · have := World.block_lt_of_cell? w _ h00
        simpa [cadd] using this
      · have hj' : j < len := by simpa using hj
        have hc := (hY j (by omega)).2.1
        simp only [cadd] at hc
        simp only [List.getElem_map, List.getElem_range]
        exact hc
    · obtain ⟨i, hi2, rfl⟩ := List.mem_map.1 hy
      exact (hY i (by have := List.mem_range.1 hi2; omega)).2.2
set_option maxRecDepth 100000 in
theorem open_rates {r : Go.Reach} {b0 : Nat} {v : Value} {d : DataW H} {p : List MemPlace} (hv : Value.okWide Tryz.prog w r b0 33 v) (h : DataW.Trod enc Tryz.prog w base (fun _ => true) held 33 v d p) :
    ∃ (A : Option Addr) (cap : Nat) (l : List Rt), v = .slice A l.length cap ∧ isSl rtD l d ∧ InRt w A l ∧ ∀ y, y ∈ l → in64 y.2.1 ∧ in64 y.2.2.1 ∧ in64 y.2.2.2 := by
  obtain ⟨a, len, c, rfl⟩ := okWide_slice Tryz.underlying33 hv
  obtain ⟨n, hn⟩ := h
  obtain ⟨A, cap, l, e, h1, h2, h3⟩ := open_rts hn
  refine ⟨A, cap, l, ?_, h1, h2, h3⟩
  simpa [Value.cells] using e
theorem size_rt {x : Rt} (h : ∀ m ∈ (rtD (H := H) x).weights Tryz.prog 42, m ≤ 140737488351232) : x.1.size ≤ 140737488355328 := by
  have h1 := h x.1.data.toList.length (by simp [rtD, DataW.weights, DataW.weightsEach, Tryz.underlying42])
  have z1 : x.1.size = x.1.data.toList.length := Lib.size_eq _
  omega
set_option maxRecDepth 100000 in
theorem size_rates {l : List Rt} {d : DataW H} (h : isSl rtD l d) (hz : ∀ y, y ∈ l → in64 y.2.1 ∧ in64 y.2.2.1 ∧ in64 y.2.2.2) (hw : ∀ m ∈ d.weights Tryz.prog 33, m ≤ 140737488351232) : l.length ≤ 140737488355328 ∧ RtSz l := by
  obtain ⟨a1, a2⟩ := size_sl Tryz.underlying33 (Nat.lt_of_lt_of_eq (by decide : 0 < 40) (by kernel_rfl)) h hw
  exact ⟨a1, fun x hx => ⟨size_rt (a2 x hx), hz x hx⟩⟩
end
end Mo
end Go.Proofs.YtpmlhgmmobpilaaGreatDoor

namespace Go.Proofs.YtpmlhgmmobpilaaGreatDoor
open Go.RowKit Go.Shelf
namespace Mo
open Nt Ci
theorem RDay_w (n : Int) (w : World) : Calls Tryz.prog 86 #[.int .i64 n] w fun e w' => e = .returned (.bool (dayB n)) ∧ w' = w := by
  have hd : dayB n = (decide (0 ≤ n) && decide (n ≤ 100000)) := Bool.decide_and _ _
  rw [hd]
  by_cases c1 : 0 ≤ n
  · have m1 : decide (0 ≤ n) = true := decide_eq_true c1
    by_cases c2 : n ≤ 100000
    · have m2 : decide (n ≤ 100000) = true := decide_eq_true c2
      rw [m1, m2]
      go_enter Tryz.func86, Tryz.ntmps86
      go_wp2
      go_ret
      exact ⟨rfl, rfl⟩
    · have m2 : decide (n ≤ 100000) = false := decide_eq_false c2
      rw [m1, m2]
      go_enter Tryz.func86, Tryz.ntmps86
      go_wp2
      go_ret
      exact ⟨rfl, rfl⟩
  · have m1 : decide (0 ≤ n) = false := decide_eq_false c1
    rw [m1, Bool.false_and]
    go_enter Tryz.func86, Tryz.ntmps86
    go_wp2
    go_ret
    exact ⟨rfl, rfl⟩
/-- No rate before the j-th is of the same currency and day. -/
def NoSame (l : List Rt) (c : ByteArray) (d : Int) (j : Nat) : Prop := ∀ i (h : i < l.length), i < j → ¬ (l[i].1 = c ∧ l[i].2.1 = d)
theorem rtAt_no {base : ByteArray} {l : List Rt} {k : Nat} (h : k < l.length) (h1 : okR base l[k] = true) (h2 : NoSame l l[k].1 l[k].2.1 k) : RtAt base l k h := by
  refine ⟨h1, fun j hj => ?_⟩
  have := h2 j (Nat.lt_trans hj h) hj
  unfold sameK
  rw [Bool.and_eq_false_iff, decide_eq_false_iff_not, decide_eq_false_iff_not]
  by_cases c : (l[j]'(Nat.lt_trans hj h)).1 = l[k].1
  · exact .inr fun d => this ⟨c, d⟩
  · exact .inl c
theorem rtAt_same {base : ByteArray} {l : List Rt} {k j : Nat} (h : k < l.length) (hj : j < k) (h1 : (l[j]'(Nat.lt_trans hj h)).1 = l[k].1) (h2 : (l[j]'(Nat.lt_trans hj h)).2.1 = l[k].2.1) : ¬ RtAt base l k h := fun hr => by
  have := hr.2 j hj
  unfold sameK at this
  rw [decide_eq_true h1, decide_eq_true h2] at this
  cases this
theorem posB_split (n : Int) : posB n = (!decide (n < 1) && !decide (1000000 < n)) := by
  unfold posB
  by_cases c1 : n < 1 <;> by_cases c2 : 1000000 < n <;> simp [c1, c2] <;> omega
set_option maxRecDepth 100000 in
set_option maxHeartbeats 16000000 in
theorem RValid_any (l : List Rt) (A : Option Addr) (cap : Nat) (base : ByteArray) (w : World) (hl : InRt w A l) (hll : l.length ≤ 140737488355328) (hbs : base.size ≤ 140737488355328) (hz : RtSz l) :
    Calls Tryz.prog 42 #[.slice A l.length cap, .string base] w fun e w' => e = .returned (.bool (validR l base)) ∧ Below w.heap.size w w' := by
  have kb := Ident_w base w (by omega)
  obtain ⟨bi, hbi⟩ : ∃ x, x = identB base := ⟨_, rfl⟩
  rw [← hbi] at kb
  have hVF : Hid (¬ (bi = true ∧ l.length ≤ 400) → validR l base = false) := fun h => by cases c : validR l base; (· rfl); (· exact absurd ⟨hbi.trans (valid_iff.1 c).1, (valid_iff.1 c).2.1⟩ h)
  have hVB := Lib.hid (fun (k : Nat) (h : k < l.length) (hb : ¬ RtAt base l k h) => valid_bad (base := base) (l := l) h hb)
  have hVT : Hid (bi = true → l.length ≤ 400 → (∀ k (h : k < l.length), RtAt base l k h) → validR l base = true) := fun h1 h2 h3 => valid_iff.2 ⟨hbi.symm.trans h1, h2, h3⟩
  have kic := Lib.hid (fun (s : ByteArray) W (h : s.size ≤ 9223372036854775807) => Ident_w s W h)
  replace hbi := Lib.hid hbi
  replace kb := Lib.hid kb
  replace hl := Lib.hid hl
  replace hz := Lib.hid hz
  cases bi with
  | false =>
    have hR : Hid (validR l base = false) := hVF.out fun h => by cases h.1
    go_enter Tryz.func42, Tryz.ntmps42
    go_wp2_with fail
    refine kb.out.mono ?_
    rintro e wq ⟨rfl, hq⟩
    obtain rfl := hq.symm
    go_wp2
    go_ret
    exact ⟨ret_bool hR.out.symm, Below.refl _ _⟩
  | true =>
    by_cases hl4 : l.length ≤ 400
    rotate_left
    · have hR : Hid (validR l base = false) := hVF.out fun h => hl4 h.2
      have m1 : decide (400 < (l.length : Int)) = true := decide_eq_true (by omega)
      go_enter Tryz.func42, Tryz.ntmps42
      go_wp2_with fail
      refine kb.out.mono ?_
      rintro e wq ⟨rfl, hq⟩
      obtain rfl := hq.symm
      go_wp2
      go_ret
      exact ⟨ret_bool hR.out.symm, Below.refl _ _⟩
    · have m1 : decide (400 < (l.length : Int)) = false := decide_eq_false (by omega)
      have hB0 : Hid (Below w.heap.size w w) := Below.refl _ _
      go_enter Tryz.func42, Tryz.ntmps42
      go_wp2_with fail
      refine kb.out.mono ?_
      rintro e wq ⟨rfl, hq⟩
      obtain rfl := hq.symm
      go_wp2_with fail
      go_loopw [5] (fun i wr => ∃ k : Nat, k ≤ l.length ∧ i = .int .i64 (k : Int) ∧ Hid (Below w.heap.size w wr) ∧ Hid (∀ j (h : j < l.length), j < k → RtAt base l j h)) (fun i _ => l.length - (intOf i).toNat)
      case atStart => exact ⟨0, Nat.zero_le _, rfl, hB0, fun j _ h => absurd h (Nat.not_lt_zero _)⟩
      case round =>
        obtain ⟨k, hk, rfl, hB, hI⟩ := hrel
        clear hB0
        obtain ⟨wz, rfl⟩ : ∃ z, z = wr := ⟨_, rfl⟩
        by_cases hlt : k < l.length
        · obtain ⟨b, off, rfl, hbl, hcc⟩ := (hl.out.below hB.out) (by omega)
          obtain ⟨e1, e2, e3, e4⟩ := hcc k hlt
          have hzz := hz.out l[k] (List.getElem_mem hlt)
          have hrn := @rtAt_no base l k hlt
          have hrs := @rtAt_same base l k
          have hbad := hVB.out k hlt
          have k0 : (0 : Int) ≤ (k : Int) := by omega
          have k1 : (k : Int) < (l.length : Int) := by omega
          have hAl : Hid (RtAt base l k hlt → ∀ j (h : j < l.length), j < k + 1 → RtAt base l j h) := fun h j hj h2 => by
            by_cases e : j = k
            · subst e; exact h
            · exact hI.out j hj (by omega)
          have hrx : ∀ j, j < k → ∀ h : j < l.length, l[j].1 = l[k].1 → l[j].2.1 = l[k].2.1 → ¬ RtAt base l k hlt := fun j hj _ h1 h2 => hrs hlt hj h1 h2
          have hok0 : ¬ okR base l[k] = true → ¬ RtAt base l k hlt := fun h h2 => h h2.1
          clear hrs
          generalize RtAt base l k hlt = RA at hrn hrx hbad hAl hok0
          obtain ⟨x, hx⟩ : ∃ x, x = l[k] := ⟨_, rfl⟩
          rw [← hx] at e1 e2 e3 e4 hzz hrn hok0
          simp only [← hx] at hrx
          replace hx := Lib.hid hx
          obtain ⟨c, d, n, m⟩ := x
          replace e1 : wz.cell? ⟨b, off + k * 4, none⟩ = some (.string c) := e1; replace e2 : wz.cell? ⟨b, off + k * 4 + 1, none⟩ = some (.int .i64 d) := e2; replace e3 : wz.cell? ⟨b, off + k * 4 + 2, none⟩ = some (.int .i64 n) := e3; replace e4 : wz.cell? ⟨b, off + k * 4 + 3, none⟩ = some (.int .i64 m) := e4
          obtain ⟨z1, ⟨z2, z3⟩, ⟨z4, z5⟩, z6, z7⟩ : c.size ≤ 140737488355328 ∧ (-9223372036854775808 ≤ d ∧ d ≤ 9223372036854775807) ∧ (-9223372036854775808 ≤ n ∧ n ≤ 9223372036854775807) ∧ (-9223372036854775808 ≤ m ∧ m ≤ 9223372036854775807) := hzz
          replace hrn : Hid (okR base (c, d, n, m) = true → NoSame l c d k → RA) := hrn
          replace hrx : Hid (∀ j, j < k → ∀ h : j < l.length, l[j].1 = c → l[j].2.1 = d → ¬ RA) := hrx
          replace hok0 := Lib.hid hok0
          replace hbad := Lib.hid hbad
          clear hcc
          have hB7 : Hid (Below w.heap.size w (wz.alloc (.cells #[.string c, .int .i64 d, .int .i64 n, .int .i64 m] 42))) := hB.out.alloc hB.out.size _
          have hx7 : Hid (Bk (wz.alloc (.cells #[.string c, .int .i64 d, .int .i64 n, .int .i64 m] 42)) wz.heap.size 42 [.string c, .int .i64 d, .int .i64 n, .int .i64 m]) := Bk.new wz _ _
          have hE := @toList_eq c base
          have hok : Hid (okR base (c, d, n, m) = (identB c && !decide (c = base) && dayB d && posB n && posB m)) := rfl
          have hp4 := posB_split n
          have hp5 := posB_split m
          have k1c := kic.out c (wz.alloc (.cells #[.string c, .int .i64 d, .int .i64 n, .int .i64 m] 42)) (by omega)
          have k2c := RDay_w d (wz.alloc (.cells #[.string c, .int .i64 d, .int .i64 n, .int .i64 m] 42))
          rw [hp4, hp5] at hok
          clear hp4 hp5
          generalize identB c = b1 at hok k1c
          generalize decide (c = base) = b2 at hok hE
          generalize dayB d = b3 at hok k2c
          obtain ⟨b4, h4⟩ : ∃ z, decide (n < 1) = z := ⟨_, rfl⟩
          obtain ⟨b5, h5⟩ : ∃ z, decide (1000000 < n) = z := ⟨_, rfl⟩
          obtain ⟨b6, h6⟩ : ∃ z, decide (m < 1) = z := ⟨_, rfl⟩
          obtain ⟨b7, h7⟩ : ∃ z, decide (1000000 < m) = z := ⟨_, rfl⟩
          rw [h4, h5, h6, h7] at hok
          replace hok := Lib.hid hok.out
          replace k1c := Lib.hid k1c; replace k2c := Lib.hid k2c
          have x0 := hx7.out.cell (j := 0) rfl
          have x1 := hx7.out.cell (j := 1) rfl
          have x2 := hx7.out.cell (j := 2) rfl
          have x3 := hx7.out.cell (j := 3) rfl
          have x9 := hx7.out.lt
          go_wp2_with fail
          refine k1c.out.mono ?_
          rintro e wq ⟨rfl, hq⟩
          obtain rfl := hq.symm
          cases b1 with
          | false =>
            have hR : Hid (validR l base = false) := hbad.out (hok0.out fun h1 => by rw [hok.out] at h1; simp at h1)
            clear hx7
            go_wp2
            go_ret
            exact ⟨ret_bool hR.out.symm, hB7.out⟩
          | true =>
            cases b2 with
            | true =>
              have hR : Hid (validR l base = false) := hbad.out (hok0.out fun h1 => by rw [hok.out] at h1; simp at h1)
              clear hx7
              go_wp2
              go_ret
              exact ⟨ret_bool hR.out.symm, hB7.out⟩
            | false =>
              go_wp2_with fail
              refine k2c.out.mono ?_
              rintro e wq ⟨rfl, hq⟩
              obtain rfl := hq.symm
              cases b3 with
              | false =>
                have hR : Hid (validR l base = false) := hbad.out (hok0.out fun h1 => by rw [hok.out] at h1; simp at h1)
                clear hx7
                go_wp2
                go_ret
                exact ⟨ret_bool hR.out.symm, hB7.out⟩
              | true =>
                cases b4 with
                | true =>
                  have hR : Hid (validR l base = false) := hbad.out (hok0.out fun h1 => by rw [hok.out] at h1; simp at h1)
                  clear hx7
                  go_wp2
                  go_ret
                  exact ⟨ret_bool hR.out.symm, hB7.out⟩
                | false =>
                  cases b5 with
                  | true =>
                    have hR : Hid (validR l base = false) := hbad.out (hok0.out fun h1 => by rw [hok.out] at h1; simp at h1)
                    clear hx7
                    go_wp2
                    go_ret
                    exact ⟨ret_bool hR.out.symm, hB7.out⟩
                  | false =>
                    cases b6 with
                    | true =>
                      have hR : Hid (validR l base = false) := hbad.out (hok0.out fun h1 => by rw [hok.out] at h1; simp at h1)
                      clear hx7
                      go_wp2
                      go_ret
                      exact ⟨ret_bool hR.out.symm, hB7.out⟩
                    | false =>
                      cases b7 with
                      | true =>
                        have hR : Hid (validR l base = false) := hbad.out (hok0.out fun h1 => by rw [hok.out] at h1; simp at h1)
                        clear hx7
                        go_wp2
                        go_ret
                        exact ⟨ret_bool hR.out.symm, hB7.out⟩
                      | false =>
                        have hokT : Hid (okR base (c, d, n, m) = true) := by rw [hok.out]; rfl
                        clear hok hok0 x0 x1 x2 x3 x9
                        have hN0 : Hid (NoSame l c d 0) := fun i _ h => absurd h (Nat.not_lt_zero _)
                        go_wp2_with fail
                        go_loopw [7] (fun i wr => ∃ j : Nat, j ≤ k ∧ i = .int .i64 (j : Int) ∧ Hid (Below w.heap.size w wr) ∧ Hid (Bk wr wz.heap.size 42 [.string c, .int .i64 d, .int .i64 n, .int .i64 m]) ∧ Hid (NoSame l c d j)) (fun i _ => k - (intOf i).toNat)
                        case atStart => exact ⟨0, Nat.zero_le _, rfl, hB7, hx7, hN0⟩
                        case round =>
                          obtain ⟨j, hj, rfl, hBy, hxy, hN⟩ := hrel
                          clear hB7 hx7 hN0
                          obtain ⟨wy, rfl⟩ : ∃ z, z = wr := ⟨_, rfl⟩
                          by_cases hjk : j < k
                          · have hjl : j < l.length := by omega
                            obtain ⟨b9, off9, h9, hbl9, hcc⟩ := (hl.out.below hBy.out) (by omega)
                            simp only [Option.some.injEq, Addr.mk.injEq] at h9
                            obtain ⟨rfl, rfl, _⟩ := h9
                            obtain ⟨f1, f2, f3, f4⟩ := hcc j hjl
                            clear hcc
                            have j0 : (0 : Int) ≤ (j : Int) := by omega
                            have j1 : (j : Int) < (l.length : Int) := by omega
                            have j2 : (j : Int) < (k : Int) := by omega
                            have hNn : Hid (¬ (l[j].1 = c ∧ l[j].2.1 = d) → NoSame l c d (j + 1)) := fun h i hi h2 => by
                              by_cases e : i = j
                              · subst e; exact h
                              · exact hN.out i hi (by omega)
                            have hsm := hrx.out j hjk hjl
                            obtain ⟨y, hy⟩ : ∃ y, y = l[j] := ⟨_, rfl⟩
                            rw [← hy] at f1 f2 f3 f4 hNn hsm
                            replace hy := Lib.hid hy
                            obtain ⟨yc, yd, yn, ym⟩ := y
                            replace f1 : wy.cell? ⟨b, off + j * 4, none⟩ = some (.string yc) := f1; replace f2 : wy.cell? ⟨b, off + j * 4 + 1, none⟩ = some (.int .i64 yd) := f2
                            replace hNn : Hid (¬ (yc = c ∧ yd = d) → NoSame l c d (j + 1)) := hNn; replace hsm : Hid (yc = c → yd = d → ¬ RA) := hsm
                            clear f3 f4
                            have hB8 := Lib.hid (hBy.out.drew); have hx8 := Lib.hid (hxy.out.below (Below.refl _ wy).drew)
                            have x0 := hxy.out.cell (j := 0) rfl; have x1 := hxy.out.cell (j := 1) rfl; have x9 := hxy.out.lt
                            have hE2 := @toList_eq yc c
                            by_cases c1 : yc = c
                            · rw [decide_eq_true c1] at hE2
                              by_cases c2 : yd = d
                              · have t2 : (yd == d) = true := by rw [beq_iff_eq]; exact c2
                                have hR : Hid (validR l base = false) := hbad.out (hsm.out c1 c2)
                                replace c1 := Lib.hid c1; replace c2 := Lib.hid c2
                                clear hsm hNn
                                go_wp2_with fail
                                go_region
                                all_goals go_wp2
                                all_goals go_ret
                                all_goals exact ⟨ret_bool hR.out.symm, hB8.out⟩
                              · have t2 : (yd == d) = false := by rw [beq_eq_false_iff_ne]; exact c2
                                have hN2 := Lib.hid (hNn.out fun h => c2 h.2)
                                replace c1 := Lib.hid c1; replace c2 := Lib.hid c2
                                clear hsm hNn
                                go_wp2_with fail
                                go_region
                                all_goals go_wp2
                                all_goals exact ⟨⟨j + 1, by omega, by go_num, hB8, hx8, hN2⟩, by simp only [intOf]; omega⟩
                            · rw [decide_eq_false c1] at hE2
                              have hN2 := Lib.hid (hNn.out fun h => c1 h.1)
                              replace c1 := Lib.hid c1
                              clear hsm hNn
                              go_wp2_with fail
                              go_region
                              all_goals go_wp2
                              all_goals exact ⟨⟨j + 1, by omega, by go_num, hB8, hx8, hN2⟩, by simp only [intOf]; omega⟩
                          · obtain rfl : j = k := by omega
                            have hRA := Lib.hid (hAl.out (hrn.out hokT.out hN.out))
                            clear hAl hrn hrx hbad hN
                            go_wp2
                            exact ⟨⟨j + 1, by omega, by go_num, hBy, hRA⟩, by simp only [intOf]; omega⟩
        · obtain rfl : k = l.length := by omega
          have hR : Hid (validR l base = true) := hVT.out (by first | rfl | trivial) hl4 fun j hj => hI.out j hj hj
          clear hI
          go_wp2
          go_ret
          exact ⟨ret_bool hR.out.symm, hB.out⟩
end Mo
end Go.Proofs.YtpmlhgmmobpilaaGreatDoor

namespace Go.Proofs.YtpmlhgmmobpilaaGreatDoor
open Go.RowKit Go.Shelf
namespace Mo
open Nt Ci
/-- What the reference holds as the best rate so far. -/
def bestV (o : Option Rt) : Rt := o.getD (⟨#[]⟩, -1, 0, 0)
theorem bestV_step {base cur : ByteArray} {day : Int} {l : List Rt} (hv : validR l base = true) {k : Nat} (h : k < l.length) :
    bestV (bestR (l.take (k + 1)) cur day) = if l[k].1 = cur ∧ l[k].2.1 ≤ day ∧ (bestV (bestR (l.take k) cur day)).2.1 < l[k].2.1 then l[k] else bestV (bestR (l.take k) cur day) := by
  have hd : 0 ≤ l[k].2.1 := by
    have := ((valid_iff.1 hv).2.2 k h).1
    unfold okR at this
    simp only [Bool.and_eq_true] at this
    have := of_decide_eq_true this.1.1.2
    exact this.1
  rw [best_take h]
  cases c : bestR (l.take k) cur day with
  | none =>
    unfold stepB knownB bestV
    simp only [Option.getD_none, Bool.and_eq_true, decide_eq_true_eq]
    by_cases d : l[k].1 = cur ∧ l[k].2.1 ≤ day
    · rw [if_pos d, if_pos ⟨d.1, d.2, by omega⟩]; rfl
    · rw [if_neg d, if_neg fun e => d ⟨e.1, e.2.1⟩]; rfl
  | some y =>
    unfold stepB knownB bestV
    simp only [Option.getD_some, Bool.and_eq_true, decide_eq_true_eq]
    by_cases d : (l[k].1 = cur ∧ l[k].2.1 ≤ day) ∧ y.2.1 < l[k].2.1
    · rw [if_pos d, if_pos ⟨d.1.1, d.1.2, d.2⟩]; rfl
    · rw [if_neg d, if_neg fun e => d ⟨⟨e.1, e.2.1⟩, e.2.2⟩]; rfl
theorem best_mem {cur : ByteArray} {day : Int} {l : List Rt} {y : Rt} (h : bestR l cur day = some y) : y ∈ l := by
  have := best_is (cur := cur) (day := day) l [] none (fun y hy => by cases hy)
  rw [List.nil_append] at this
  have h2 : BestIs l cur day (bestR l cur day) := this
  rw [h] at h2
  exact h2.1
theorem best_day {base cur : ByteArray} {day : Int} {l : List Rt} (hv : validR l base = true) (y : Rt) (h : bestR l cur day = some y) : 0 ≤ y.2.1 := by
  obtain ⟨k, hk, rfl⟩ := List.getElem_of_mem (best_mem h)
  have := ((valid_iff.1 hv).2.2 k hk).1
  unfold okR at this
  simp only [Bool.and_eq_true] at this
  exact (of_decide_eq_true this.1.1.2).1
theorem bestV_sz {base cur : ByteArray} {day : Int} {l : List Rt} (hv : validR l base = true) (k : Nat) : -1 ≤ (bestV (bestR (l.take k) cur day)).2.1 ∧ (bestV (bestR (l.take k) cur day)).2.1 ≤ 100000 := by
  cases c : bestR (l.take k) cur day with
  | none => exact ⟨by decide, by decide⟩
  | some y =>
    obtain ⟨j, hj, rfl⟩ := List.getElem_of_mem (List.mem_of_mem_take (best_mem c))
    have := ((valid_iff.1 hv).2.2 j hj).1
    unfold okR at this
    simp only [Bool.and_eq_true] at this
    have := of_decide_eq_true this.1.1.2
    show -1 ≤ l[j].2.1 ∧ l[j].2.1 ≤ 100000
    omega
set_option maxRecDepth 100000 in
set_option maxHeartbeats 16000000 in
theorem RFind_any (l : List Rt) (A : Option Addr) (cap : Nat) (base cur : ByteArray) (day : Int) (w : World) (hl : InRt w A l) (hll : l.length ≤ 140737488355328) (hbs : base.size ≤ 140737488355328) (hcs : cur.size ≤ 140737488355328) (hz : RtSz l) :
    Calls Tryz.prog 36 #[.slice A l.length cap, .string base, .string cur, .int .i64 day] w fun e w' => e = .returned (.tuple #[rtV (findR l base cur day).1, .int .i64 (findR l base cur day).2]) ∧ Below w.heap.size w w' := by
  have hB1 : Hid (Below w.heap.size w (w.alloc (.cells #[.string ⟨#[]⟩, .int .i64 0, .int .i64 0, .int .i64 0] 42))) := (Below.refl _ w).alloc (Nat.le_refl _) _
  have hr1 : Hid (Bk (w.alloc (.cells #[.string ⟨#[]⟩, .int .i64 0, .int .i64 0, .int .i64 0] 42)) w.heap.size 42 [.string ⟨#[]⟩, .int .i64 0, .int .i64 0, .int .i64 0]) := Bk.new w _ _
  have kv := RValid_any l A cap base (w.alloc (.cells #[.string ⟨#[]⟩, .int .i64 0, .int .i64 0, .int .i64 0] 42)) (hl.below hB1.out) hll hbs hz
  have kic := Lib.hid (fun W => Ident_w cur W (by omega))
  have kid := Lib.hid (fun W => RDay_w day W)
  have hE := @toList_eq cur base
  have f1 := @find_no l base cur day; have f2 := @find_own l base cur day; have f3 := @find_some l base cur day; have f4 := @find_none l base cur day
  have hbd := @best_day base cur day l
  have hbv := @bestV_step base cur day l
  have hbz := @bestV_sz base cur day l
  generalize findR l base cur day = fr at f1 f2 f3 f4 ⊢
  obtain ⟨bv, hbvv⟩ : ∃ x, x = validR l base := ⟨_, rfl⟩; obtain ⟨bi, hbi⟩ : ∃ x, x = identB cur := ⟨_, rfl⟩; obtain ⟨bd, hbdd⟩ : ∃ x, x = dayB day := ⟨_, rfl⟩
  rw [← hbvv] at kv hbd hbv hbz; rw [← hbi] at kic; rw [← hbdd] at kid; rw [← hbvv, ← hbi, ← hbdd] at f1 f2 f3 f4
  clear hbvv hbi hbdd
  replace kv := Lib.hid kv; replace hz := Lib.hid hz; replace hl := Lib.hid hl; replace hbd := Lib.hid hbd; replace hbv := Lib.hid @hbv; replace hbz := Lib.hid hbz
  go_enter Tryz.func36, Tryz.ntmps36
  go_wp2_with fail
  refine kv.out.mono ?_
  rintro e w2 ⟨rfl, hb⟩
  have hB2 := Lib.hid (hB1.out.trans (hb.mono hB1.out.size)); have hr2 := Lib.hid (hr1.out.below hb)
  clear hb hB1 hr1 kv
  have r0 := hr2.out.cell (j := 0) rfl; have r1 := hr2.out.cell (j := 1) rfl; have r2 := hr2.out.cell (j := 2) rfl; have r3 := hr2.out.cell (j := 3) rfl; have r9 := hr2.out.lt
  have rf0 := hr2.out.frozen 0; have rf1 := hr2.out.frozen 1; have rf2 := hr2.out.frozen 2; have rf3 := hr2.out.frozen 3
  cases bv with
  | false =>
    have hfr : fr = (noR, 1) := f1 (by simp)
    clear f1 f2 f3 f4 hbv hbd hbz
    have hB5 : Hid (Below w.heap.size w ((((w2.setCell ⟨w.heap.size, 0, none⟩ (.string ⟨#[]⟩)).setCell ⟨w.heap.size, 1, none⟩ (.int .i64 0)).setCell ⟨w.heap.size, 2, none⟩ (.int .i64 0)).setCell ⟨w.heap.size, 3, none⟩ (.int .i64 0))) := ((((hB2.out.setCell (p := ⟨w.heap.size, 0, none⟩) (Nat.le_refl _) _).setCell (p := ⟨w.heap.size, 1, none⟩) (Nat.le_refl _) _).setCell (p := ⟨w.heap.size, 2, none⟩) (Nat.le_refl _) _).setCell (p := ⟨w.heap.size, 3, none⟩) (Nat.le_refl _) _)
    have hR5 : Hid (Bk ((((w2.setCell ⟨w.heap.size, 0, none⟩ (.string ⟨#[]⟩)).setCell ⟨w.heap.size, 1, none⟩ (.int .i64 0)).setCell ⟨w.heap.size, 2, none⟩ (.int .i64 0)).setCell ⟨w.heap.size, 3, none⟩ (.int .i64 0)) w.heap.size 42 [.string ⟨#[]⟩, .int .i64 0, .int .i64 0, .int .i64 0]) := (Bk.set (Bk.set (Bk.set (Bk.set hr2.out 0 (.string ⟨#[]⟩)) 1 (.int .i64 0)) 2 (.int .i64 0)) 3 (.int .i64 0))
    go_wp2
    (try simp only [Exit.inBlock, Exit.then])
    have s0 := hR5.out.cell (j := 0) rfl
    have s1 := hR5.out.cell (j := 1) rfl
    have s2 := hR5.out.cell (j := 2) rfl
    have s3 := hR5.out.cell (j := 3) rfl
    have s9 := hR5.out.lt
    refine bodyPost_ret (v := .tuple #[.agg #[.string ⟨#[]⟩, .int .i64 0, .int .i64 0, .int .i64 0], .int .i64 1]) (by simp [results, Tryz.results36, go_sem, s0, s1, s2, s3]) rfl ⟨by rw [hfr]; rfl, hB5.out⟩
  | true =>
    go_wp2_with fail
    refine (kic.out _).mono ?_
    rintro e wq ⟨rfl, hq⟩
    obtain rfl := hq.symm
    cases bi with
    | false =>
      have hfr : fr = (noR, 1) := f1 (by simp)
      clear f1 f2 f3 f4 hbv hbd hbz
      have hB5 : Hid (Below w.heap.size w ((((w2.setCell ⟨w.heap.size, 0, none⟩ (.string ⟨#[]⟩)).setCell ⟨w.heap.size, 1, none⟩ (.int .i64 0)).setCell ⟨w.heap.size, 2, none⟩ (.int .i64 0)).setCell ⟨w.heap.size, 3, none⟩ (.int .i64 0))) := ((((hB2.out.setCell (p := ⟨w.heap.size, 0, none⟩) (Nat.le_refl _) _).setCell (p := ⟨w.heap.size, 1, none⟩) (Nat.le_refl _) _).setCell (p := ⟨w.heap.size, 2, none⟩) (Nat.le_refl _) _).setCell (p := ⟨w.heap.size, 3, none⟩) (Nat.le_refl _) _)
      have hR5 : Hid (Bk ((((w2.setCell ⟨w.heap.size, 0, none⟩ (.string ⟨#[]⟩)).setCell ⟨w.heap.size, 1, none⟩ (.int .i64 0)).setCell ⟨w.heap.size, 2, none⟩ (.int .i64 0)).setCell ⟨w.heap.size, 3, none⟩ (.int .i64 0)) w.heap.size 42 [.string ⟨#[]⟩, .int .i64 0, .int .i64 0, .int .i64 0]) := (Bk.set (Bk.set (Bk.set (Bk.set hr2.out 0 (.string ⟨#[]⟩)) 1 (.int .i64 0)) 2 (.int .i64 0)) 3 (.int .i64 0))
      go_wp2
      (try simp only [Exit.inBlock, Exit.then])
      have s0 := hR5.out.cell (j := 0) rfl
      have s1 := hR5.out.cell (j := 1) rfl
      have s2 := hR5.out.cell (j := 2) rfl
      have s3 := hR5.out.cell (j := 3) rfl
      have s9 := hR5.out.lt
      refine bodyPost_ret (v := .tuple #[.agg #[.string ⟨#[]⟩, .int .i64 0, .int .i64 0, .int .i64 0], .int .i64 1]) (by simp [results, Tryz.results36, go_sem, s0, s1, s2, s3]) rfl ⟨by rw [hfr]; rfl, hB5.out⟩
    | true =>
      go_wp2_with fail
      refine (kid.out _).mono ?_
      rintro e wq ⟨rfl, hq⟩
      obtain rfl := hq.symm
      cases bd with
      | false =>
        have hfr : fr = (noR, 1) := f1 (by simp)
        clear f1 f2 f3 f4 hbv hbd hbz
        have hB5 : Hid (Below w.heap.size w ((((w2.setCell ⟨w.heap.size, 0, none⟩ (.string ⟨#[]⟩)).setCell ⟨w.heap.size, 1, none⟩ (.int .i64 0)).setCell ⟨w.heap.size, 2, none⟩ (.int .i64 0)).setCell ⟨w.heap.size, 3, none⟩ (.int .i64 0))) := ((((hB2.out.setCell (p := ⟨w.heap.size, 0, none⟩) (Nat.le_refl _) _).setCell (p := ⟨w.heap.size, 1, none⟩) (Nat.le_refl _) _).setCell (p := ⟨w.heap.size, 2, none⟩) (Nat.le_refl _) _).setCell (p := ⟨w.heap.size, 3, none⟩) (Nat.le_refl _) _)
        have hR5 : Hid (Bk ((((w2.setCell ⟨w.heap.size, 0, none⟩ (.string ⟨#[]⟩)).setCell ⟨w.heap.size, 1, none⟩ (.int .i64 0)).setCell ⟨w.heap.size, 2, none⟩ (.int .i64 0)).setCell ⟨w.heap.size, 3, none⟩ (.int .i64 0)) w.heap.size 42 [.string ⟨#[]⟩, .int .i64 0, .int .i64 0, .int .i64 0]) := (Bk.set (Bk.set (Bk.set (Bk.set hr2.out 0 (.string ⟨#[]⟩)) 1 (.int .i64 0)) 2 (.int .i64 0)) 3 (.int .i64 0))
        go_wp2
        (try simp only [Exit.inBlock, Exit.then])
        have s0 := hR5.out.cell (j := 0) rfl
        have s1 := hR5.out.cell (j := 1) rfl
        have s2 := hR5.out.cell (j := 2) rfl
        have s3 := hR5.out.cell (j := 3) rfl
        have s9 := hR5.out.lt
        refine bodyPost_ret (v := .tuple #[.agg #[.string ⟨#[]⟩, .int .i64 0, .int .i64 0, .int .i64 0], .int .i64 1]) (by simp [results, Tryz.results36, go_sem, s0, s1, s2, s3]) rfl ⟨by rw [hfr]; rfl, hB5.out⟩
      | true =>
        by_cases hcb : cur = base
        · have hfr := f2 (by simp) hcb
          rw [decide_eq_true hcb] at hE
          replace hcb := Lib.hid hcb
          clear f1 f2 f3 f4 hbv hbd hbz
          have hB5 : Hid (Below w.heap.size w ((((w2.setCell ⟨w.heap.size, 0, none⟩ (.string base)).setCell ⟨w.heap.size, 1, none⟩ (.int .i64 0)).setCell ⟨w.heap.size, 2, none⟩ (.int .i64 1)).setCell ⟨w.heap.size, 3, none⟩ (.int .i64 1))) := ((((hB2.out.setCell (p := ⟨w.heap.size, 0, none⟩) (Nat.le_refl _) _).setCell (p := ⟨w.heap.size, 1, none⟩) (Nat.le_refl _) _).setCell (p := ⟨w.heap.size, 2, none⟩) (Nat.le_refl _) _).setCell (p := ⟨w.heap.size, 3, none⟩) (Nat.le_refl _) _)
          have hR5 : Hid (Bk ((((w2.setCell ⟨w.heap.size, 0, none⟩ (.string base)).setCell ⟨w.heap.size, 1, none⟩ (.int .i64 0)).setCell ⟨w.heap.size, 2, none⟩ (.int .i64 1)).setCell ⟨w.heap.size, 3, none⟩ (.int .i64 1)) w.heap.size 42 [.string base, .int .i64 0, .int .i64 1, .int .i64 1]) := (Bk.set (Bk.set (Bk.set (Bk.set hr2.out 0 (.string base)) 1 (.int .i64 0)) 2 (.int .i64 1)) 3 (.int .i64 1))
          go_wp2
          (try simp only [Exit.inBlock, Exit.then])
          have s0 := hR5.out.cell (j := 0) rfl
          have s1 := hR5.out.cell (j := 1) rfl
          have s2 := hR5.out.cell (j := 2) rfl
          have s3 := hR5.out.cell (j := 3) rfl
          have s9 := hR5.out.lt
          refine bodyPost_ret (v := .tuple #[.agg #[.string base, .int .i64 0, .int .i64 1, .int .i64 1], .int .i64 0]) (by simp [results, Tryz.results36, go_sem, s0, s1, s2, s3]) rfl ⟨by rw [hfr]; rfl, hB5.out⟩
        · rw [decide_eq_false hcb] at hE
          have g3 := f3 (by simp) hcb; have g4 := f4 (by simp) hcb
          clear f1 f2 f3 f4 r0 r1 r2 r3 r9 rf0 rf1 rf2 rf3
          replace hcb := Lib.hid hcb
          replace hbd := Lib.hid (hbd.out (by first | rfl | trivial))
          replace hbz := Lib.hid (hbz.out (by first | rfl | trivial))
          replace hbv := Lib.hid (fun k h => hbv.out (by first | rfl | trivial) (k := k) h)
          obtain ⟨bb, hbb⟩ : ∃ x, x = w2.heap.size := ⟨_, rfl⟩
          have hrl : Hid (w.heap.size < bb) := by rw [hbb]; exact hr2.out.lt
          have hB3 : Hid (Below w.heap.size w (w2.alloc (.cells #[.string ⟨#[]⟩, .int .i64 (-1), .int .i64 0, .int .i64 0] 42))) := hB2.out.alloc hB2.out.size _
          have hr3 : Hid (Bk (w2.alloc (.cells #[.string ⟨#[]⟩, .int .i64 (-1), .int .i64 0, .int .i64 0] 42)) w.heap.size 42 [.string ⟨#[]⟩, .int .i64 0, .int .i64 0, .int .i64 0]) := hr2.out.alloc _
          have hb3 : Hid (RB (w2.alloc (.cells #[.string ⟨#[]⟩, .int .i64 (-1), .int .i64 0, .int .i64 0] 42)) bb (bestV (bestR (l.take 0) cur day))) := by rw [hbb]; exact Bk.new w2 _ _
          obtain ⟨W3, hW3⟩ : ∃ W, W = (w2.alloc (.cells #[.string ⟨#[]⟩, .int .i64 (-1), .int .i64 0, .int .i64 0] 42)) := ⟨_, rfl⟩
          rw [← hW3] at hB3 hr3 hb3
          clear hB2 hr2
          go_wp2_with fail
          (try rw [← hW3])
          (try rw [← hbb])
          replace hW3 := Lib.hid hW3; replace hbb := Lib.hid hbb
          go_loopw [11] (fun i wr => ∃ k : Nat, k ≤ l.length ∧ i = .int .i64 (k : Int) ∧ Hid (Below w.heap.size w wr) ∧ Hid (Bk wr w.heap.size 42 [.string ⟨#[]⟩, .int .i64 0, .int .i64 0, .int .i64 0]) ∧ Hid (RB wr bb (bestV (bestR (l.take k) cur day)))) (fun i _ => l.length - (intOf i).toNat)
          case atStart => exact ⟨0, Nat.zero_le _, rfl, hB3, hr3, hb3⟩
          case round =>
            obtain ⟨k, hk, rfl, hB, hr, hb⟩ := hrel
            clear hB3 hr3 hb3
            obtain ⟨wz, rfl⟩ : ∃ z, z = wr := ⟨_, rfl⟩
            by_cases hlt : k < l.length
            · obtain ⟨b, off, rfl, hbl, hcc⟩ := (hl.out.below hB.out) (by omega)
              obtain ⟨e1, e2, e3, e4⟩ := hcc k hlt
              have hzz := hz.out l[k] (List.getElem_mem hlt)
              have hst := hbv.out k hlt
              have hzb := hbz.out k
              have hbl0 : Hid (b < w.heap.size) := by obtain ⟨b5, o5, q5, q6, _⟩ := hl.out (by omega); simp only [Option.some.injEq, Addr.mk.injEq] at q5; rw [q5.1]; exact q6
              have k0 : (0 : Int) ≤ (k : Int) := by omega
              have k1 : (k : Int) < (l.length : Int) := by omega
              obtain ⟨nv, hnv⟩ : ∃ z, z = bestV (bestR (l.take (k + 1)) cur day) := ⟨_, rfl⟩
              rw [← hnv] at hst
              replace hnv := Lib.hid hnv
              generalize bestV (bestR (l.take k) cur day) = y at hb hst hzb
              obtain ⟨x, hx⟩ : ∃ x, x = l[k] := ⟨_, rfl⟩
              rw [← hx] at e1 e2 e3 e4 hzz hst
              replace hx := Lib.hid hx
              obtain ⟨c, d, n, m⟩ := x
              obtain ⟨yc, yd, yn, ym⟩ := y
              replace e1 : wz.cell? ⟨b, off + k * 4, none⟩ = some (.string c) := e1; replace e2 : wz.cell? ⟨b, off + k * 4 + 1, none⟩ = some (.int .i64 d) := e2; replace e3 : wz.cell? ⟨b, off + k * 4 + 2, none⟩ = some (.int .i64 n) := e3; replace e4 : wz.cell? ⟨b, off + k * 4 + 3, none⟩ = some (.int .i64 m) := e4
              obtain ⟨z1, ⟨z2, z3⟩, ⟨z4, z5⟩, z6, z7⟩ : c.size ≤ 140737488355328 ∧ (-9223372036854775808 ≤ d ∧ d ≤ 9223372036854775807) ∧ (-9223372036854775808 ≤ n ∧ n ≤ 9223372036854775807) ∧ (-9223372036854775808 ≤ m ∧ m ≤ 9223372036854775807) := hzz
              replace hst : nv = if c = cur ∧ d ≤ day ∧ yd < d then (c, d, n, m) else (yc, yd, yn, ym) := hst
              replace hzb : -1 ≤ yd ∧ yd ≤ 100000 := hzb
              clear hcc
              have hbx : Hid (Bk wz bb 42 [.string yc, .int .i64 yd, .int .i64 yn, .int .i64 ym]) := hb
              clear hb
              have y0 := hbx.out.cell (j := 0) rfl; have y1 := hbx.out.cell (j := 1) rfl; have y2 := hbx.out.cell (j := 2) rfl; have y3 := hbx.out.cell (j := 3) rfl; have y9 := hbx.out.lt
              have yf0 := hbx.out.frozen 0; have yf1 := hbx.out.frozen 1; have yf2 := hbx.out.frozen 2; have yf3 := hbx.out.frozen 3
              have nbl : b ≠ bb := by have := hbl0.out; have := hrl.out; omega
              have nbl2 : bb ≠ b := Ne.symm nbl
              have hE2 := @toList_eq c cur
              have hBd := Lib.hid (hB.out.drew); have hrd := Lib.hid (hr.out.below (Below.refl _ wz).drew); have hbd2 := Lib.hid (hbx.out.below (Below.refl _ wz).drew)
              by_cases c1 : c = cur
              · rw [decide_eq_true c1] at hE2
                by_cases c2 : d ≤ day
                · have t2 : decide (d ≤ day) = true := decide_eq_true c2
                  by_cases c3 : yd < d
                  · have t3 : decide (yd < d) = true := decide_eq_true c3
                    rw [if_pos ⟨c1, c2, c3⟩] at hst
                    replace hst := Lib.hid hst; replace c1 := Lib.hid c1; replace c2 := Lib.hid c2; replace c3 := Lib.hid c3
                    have hle : Hid (w.heap.size ≤ bb) := Nat.le_of_lt hrl.out
                    have hne : Hid (w.heap.size ≠ bb) := Nat.ne_of_lt hrl.out
                    have hB8 : Hid (Below w.heap.size w ((((wz.drew.setCell ⟨bb, 0, none⟩ (.string c)).setCell ⟨bb, 1, none⟩ (.int .i64 d)).setCell ⟨bb, 2, none⟩ (.int .i64 n)).setCell ⟨bb, 3, none⟩ (.int .i64 m))) := ((((hBd.out.setCell (p := ⟨bb, 0, none⟩) hle.out _).setCell (p := ⟨bb, 1, none⟩) hle.out _).setCell (p := ⟨bb, 2, none⟩) hle.out _).setCell (p := ⟨bb, 3, none⟩) hle.out _)
                    have hr8 : Hid (Bk ((((wz.drew.setCell ⟨bb, 0, none⟩ (.string c)).setCell ⟨bb, 1, none⟩ (.int .i64 d)).setCell ⟨bb, 2, none⟩ (.int .i64 n)).setCell ⟨bb, 3, none⟩ (.int .i64 m)) w.heap.size 42 [.string ⟨#[]⟩, .int .i64 0, .int .i64 0, .int .i64 0]) := ((((hrd.out.far (p := ⟨bb, 0, none⟩) hne.out _).far (p := ⟨bb, 1, none⟩) hne.out _).far (p := ⟨bb, 2, none⟩) hne.out _).far (p := ⟨bb, 3, none⟩) hne.out _)
                    have hb8 : Hid (RB ((((wz.drew.setCell ⟨bb, 0, none⟩ (.string c)).setCell ⟨bb, 1, none⟩ (.int .i64 d)).setCell ⟨bb, 2, none⟩ (.int .i64 n)).setCell ⟨bb, 3, none⟩ (.int .i64 m)) bb nv) := by rw [hst.out]; exact (Bk.set (Bk.set (Bk.set (Bk.set hbd2.out 0 (.string c)) 1 (.int .i64 d)) 2 (.int .i64 n)) 3 (.int .i64 m))
                    rw [hnv.out] at hb8
                    go_wp2_with fail
                    go_region
                    all_goals go_wp2
                    all_goals exact ⟨⟨k + 1, by omega, by go_num, hB8, hr8, hb8⟩, by simp only [intOf]; omega⟩
                  · have t3 : decide (yd < d) = false := decide_eq_false c3
                    rw [if_neg fun h => c3 h.2.2] at hst
                    replace hst := Lib.hid hst; replace c1 := Lib.hid c1; replace c2 := Lib.hid c2; replace c3 := Lib.hid c3
                    go_wp2_with fail
                    go_region
                    all_goals go_wp2
                    all_goals exact ⟨⟨k + 1, by omega, by go_num, hBd, hrd, by rw [← hnv.out, hst.out]; exact hbd2⟩, by simp only [intOf]; omega⟩
                · have t2 : decide (d ≤ day) = false := decide_eq_false c2
                  rw [if_neg fun h => c2 h.2.1] at hst
                  replace hst := Lib.hid hst; replace c1 := Lib.hid c1; replace c2 := Lib.hid c2
                  go_wp2_with fail
                  go_region
                  all_goals go_wp2
                  all_goals exact ⟨⟨k + 1, by omega, by go_num, hBd, hrd, by rw [← hnv.out, hst.out]; exact hbd2⟩, by simp only [intOf]; omega⟩
              · rw [decide_eq_false c1] at hE2
                rw [if_neg fun h => c1 h.1] at hst
                replace hst := Lib.hid hst; replace c1 := Lib.hid c1
                go_wp2_with fail
                go_region
                all_goals go_wp2
                all_goals exact ⟨⟨k + 1, by omega, by go_num, hBd, hrd, by rw [← hnv.out, hst.out]; exact hbd2⟩, by simp only [intOf]; omega⟩
            · obtain rfl : k = l.length := by omega
              rw [List.take_length] at hb
              have hbd3 := hbd.out
              have r0 := hr.out.cell (j := 0) rfl; have r1 := hr.out.cell (j := 1) rfl; have r2 := hr.out.cell (j := 2) rfl; have r3 := hr.out.cell (j := 3) rfl; have r9 := hr.out.lt
              have rf0 := hr.out.frozen 0; have rf1 := hr.out.frozen 1; have rf2 := hr.out.frozen 2; have rf3 := hr.out.frozen 3
              cases hbr : bestR l cur day with
              | none =>
                rw [hbr] at hb
                have hfr : fr = (noR, 11) := g4 (by rw [hbr]; rfl)
                have hbx : Hid (Bk wz bb 42 [.string ⟨#[]⟩, .int .i64 (-1), .int .i64 0, .int .i64 0]) := hb
                have y1 := hbx.out.cell (j := 1) rfl; have y9 := hbx.out.lt
                clear g3 g4 hbd3 hb
                have hB5 : Hid (Below w.heap.size w ((((wz.setCell ⟨w.heap.size, 0, none⟩ (.string ⟨#[]⟩)).setCell ⟨w.heap.size, 1, none⟩ (.int .i64 0)).setCell ⟨w.heap.size, 2, none⟩ (.int .i64 0)).setCell ⟨w.heap.size, 3, none⟩ (.int .i64 0))) := ((((hB.out.setCell (p := ⟨w.heap.size, 0, none⟩) (Nat.le_refl _) _).setCell (p := ⟨w.heap.size, 1, none⟩) (Nat.le_refl _) _).setCell (p := ⟨w.heap.size, 2, none⟩) (Nat.le_refl _) _).setCell (p := ⟨w.heap.size, 3, none⟩) (Nat.le_refl _) _)
                have hR5 : Hid (Bk ((((wz.setCell ⟨w.heap.size, 0, none⟩ (.string ⟨#[]⟩)).setCell ⟨w.heap.size, 1, none⟩ (.int .i64 0)).setCell ⟨w.heap.size, 2, none⟩ (.int .i64 0)).setCell ⟨w.heap.size, 3, none⟩ (.int .i64 0)) w.heap.size 42 [.string ⟨#[]⟩, .int .i64 0, .int .i64 0, .int .i64 0]) := (Bk.set (Bk.set (Bk.set (Bk.set hr.out 0 (.string ⟨#[]⟩)) 1 (.int .i64 0)) 2 (.int .i64 0)) 3 (.int .i64 0))
                go_wp2
                (try simp only [Exit.inBlock, Exit.then])
                have s0 := hR5.out.cell (j := 0) rfl
                have s1 := hR5.out.cell (j := 1) rfl
                have s2 := hR5.out.cell (j := 2) rfl
                have s3 := hR5.out.cell (j := 3) rfl
                have s9 := hR5.out.lt
                refine bodyPost_ret (v := .tuple #[.agg #[.string ⟨#[]⟩, .int .i64 0, .int .i64 0, .int .i64 0], .int .i64 11]) (by simp [results, Tryz.results36, go_sem, s0, s1, s2, s3]) rfl ⟨by rw [hfr]; rfl, hB5.out⟩
              | some y =>
                rw [hbr] at hb
                have hfr : fr = ((bestR l cur day).getD noR, 0) := g3 (by rw [hbr]; rfl)
                rw [hbr] at hfr
                have hyd := hbd3 y hbr
                obtain ⟨yc, yd, yn, ym⟩ := y
                replace hyd : 0 ≤ yd := hyd
                have hbx : Hid (Bk wz bb 42 [.string yc, .int .i64 yd, .int .i64 yn, .int .i64 ym]) := hb
                have hyz := hbz.out l.length
                rw [List.take_length, hbr] at hyz
                replace hyz : -1 ≤ yd ∧ yd ≤ 100000 := hyz
                have y0 := hbx.out.cell (j := 0) rfl; have y1 := hbx.out.cell (j := 1) rfl; have y2 := hbx.out.cell (j := 2) rfl; have y3 := hbx.out.cell (j := 3) rfl; have y9 := hbx.out.lt
                have yf0 := hbx.out.frozen 0; have yf1 := hbx.out.frozen 1; have yf2 := hbx.out.frozen 2; have yf3 := hbx.out.frozen 3
                have t5 : decide (yd < 0) = false := decide_eq_false (by omega)
                clear g3 g4 hbd3 hb
                replace hbr := Lib.hid hbr
                have hB5 : Hid (Below w.heap.size w ((((wz.setCell ⟨w.heap.size, 0, none⟩ (.string yc)).setCell ⟨w.heap.size, 1, none⟩ (.int .i64 yd)).setCell ⟨w.heap.size, 2, none⟩ (.int .i64 yn)).setCell ⟨w.heap.size, 3, none⟩ (.int .i64 ym))) := ((((hB.out.setCell (p := ⟨w.heap.size, 0, none⟩) (Nat.le_refl _) _).setCell (p := ⟨w.heap.size, 1, none⟩) (Nat.le_refl _) _).setCell (p := ⟨w.heap.size, 2, none⟩) (Nat.le_refl _) _).setCell (p := ⟨w.heap.size, 3, none⟩) (Nat.le_refl _) _)
                have hR5 : Hid (Bk ((((wz.setCell ⟨w.heap.size, 0, none⟩ (.string yc)).setCell ⟨w.heap.size, 1, none⟩ (.int .i64 yd)).setCell ⟨w.heap.size, 2, none⟩ (.int .i64 yn)).setCell ⟨w.heap.size, 3, none⟩ (.int .i64 ym)) w.heap.size 42 [.string yc, .int .i64 yd, .int .i64 yn, .int .i64 ym]) := (Bk.set (Bk.set (Bk.set (Bk.set hr.out 0 (.string yc)) 1 (.int .i64 yd)) 2 (.int .i64 yn)) 3 (.int .i64 ym))
                go_wp2
                (try simp only [Exit.inBlock, Exit.then])
                have s0 := hR5.out.cell (j := 0) rfl
                have s1 := hR5.out.cell (j := 1) rfl
                have s2 := hR5.out.cell (j := 2) rfl
                have s3 := hR5.out.cell (j := 3) rfl
                have s9 := hR5.out.lt
                refine bodyPost_ret (v := .tuple #[.agg #[.string yc, .int .i64 yd, .int .i64 yn, .int .i64 ym], .int .i64 0]) (by simp [results, Tryz.results36, go_sem, s0, s1, s2, s3]) rfl ⟨by rw [hfr]; rfl, hB5.out⟩
end Mo
end Go.Proofs.YtpmlhgmmobpilaaGreatDoor

namespace Go.Proofs.YtpmlhgmmobpilaaGreatDoor
open Go.RowKit Go.Shelf
namespace Mo
open Nt Ci
theorem mul4 {a b : Int} (ha : 1 ≤ a ∧ a ≤ 1000000) (hb : 1 ≤ b ∧ b ≤ 1000000) : 1 ≤ a * b ∧ a * b ≤ 1000000000000 := by
  have h1 : 1 * 1 ≤ a * b := Int.mul_le_mul ha.1 hb.1 (by omega) (by omega)
  have h2 : a * b ≤ 1000000 * 1000000 := Int.mul_le_mul ha.2 hb.2 (by omega) (by omega)
  omega
theorem ofQ_div {m n : Int} (hm : 1 ≤ m) (hn : 1 ≤ n) : ofQ m n = (m : Rat) / (n : Rat) := by
  unfold ofQ
  rw [decide_eq_false (by omega : ¬ m < 0), decide_eq_false (by omega : ¬ n < 0)]
  have e1 : sg (!(false == false)) m.natAbs = m := by show ((m.natAbs : Nat) : Int) = m; omega
  have e2 : ((n.natAbs : Nat) : Rat) = (n : Rat) := by
    have : ((n.natAbs : Nat) : Int) = n := by omega
    rw [← Rat.intCast_natCast, this]
  rw [e1, Rat.mkRat_eq_div, e2]
theorem conv_ref (u : Int) {xn xm yn ym : Int} (hx : (1 ≤ xn ∧ xn ≤ 1000000) ∧ (1 ≤ xm ∧ xm ≤ 1000000)) (hy : (1 ≤ yn ∧ yn ≤ 1000000) ∧ (1 ≤ ym ∧ ym ≤ 1000000)) : (u : Rat) * ofQ (xn * ym) (xm * yn) = cvK u xn xm ym yn 2 := by
  have hne : ∀ a : Int, 1 ≤ a → (a : Rat) ≠ 0 := fun a h e => by
    have : (a : Rat) = ((0 : Int) : Rat) := e
    have := Rat.intCast_inj.1 this
    omega
  have h1 := mul4 hx.2 hy.1
  have h2 := mul4 hx.1 hy.2
  show _ = (u : Rat) * ofQ xn xm * ofQ ym yn
  rw [ofQ_div h2.1 h1.1, ofQ_div hx.1.1 hx.2.1, ofQ_div hy.2.1 hy.1.1, Rat.intCast_mul, Rat.intCast_mul, Rat.div_def, Rat.div_def, Rat.div_def]
  have a1 := Rat.mul_inv_cancel _ (hne xm hx.2.1)
  have a2 := Rat.mul_inv_cancel _ (hne yn hy.1.1)
  have a3 := Rat.mul_inv_cancel ((xm : Rat) * (yn : Rat)) (by rw [← Rat.intCast_mul]; exact hne _ h1.1)
  grind
theorem ofQ_dg12 {m n : Int} (hm : 1 ≤ m ∧ m ≤ 1000000000000) (hn : 1 ≤ n ∧ n ≤ 1000000000000) : Dg 13 (ofQ m n) := by
  have h := mkRat_le (sg (!(decide (m < 0) == decide (n < 0))) m.natAbs) n.natAbs (by omega)
  rw [sg_natAbs] at h
  refine ⟨Nat.lt_of_le_of_lt h.1 ?_, Nat.lt_of_le_of_lt h.2 ?_⟩ <;> omega
theorem ofQ_short4 {xn xm yn ym : Int} (hx : (1 ≤ xn ∧ xn ≤ 1000000) ∧ (1 ≤ xm ∧ xm ≤ 1000000)) (hy : (1 ≤ yn ∧ yn ≤ 1000000) ∧ (1 ≤ ym ∧ ym ≤ 1000000)) : ShortQ (ofQ (xn * ym) (xm * yn)) :=
  (ofQ_dg12 (mul4 hx.1 hy.2) (mul4 hx.2 hy.1)).short (by omega)
set_option maxRecDepth 100000 in
theorem RProper_any (c : ByteArray) (u : Int) (w : World) (hc : c.size ≤ 140737488355328) : Calls Tryz.prog 87 #[.agg #[.string c, .int .i64 u]] w fun e w' => e = .returned (.bool (properB c u)) ∧ Below w.heap.size w w' := by
  have hB1 : Hid (Below w.heap.size w (w.alloc (.cells #[.string c, .int .i64 u] 35))) := (Below.refl _ w).alloc (Nat.le_refl _) _
  have kc := Lib.hid (Ident_w c (w.alloc (.cells #[.string c, .int .i64 u] 35)) (by omega))
  unfold properB unitB
  generalize identB c = b at kc ⊢
  cases b with
  | false =>
    rw [Bool.false_and]
    go_enter Tryz.func87, Tryz.ntmps87
    go_wp2_with fail
    refine kc.out.mono ?_
    rintro e wq ⟨rfl, hq⟩
    obtain rfl := hq.symm
    go_wp2
    go_ret
    exact ⟨rfl, hB1.out⟩
  | true =>
    rw [Bool.true_and]
    cases h1 : decide (-1000000000000 ≤ u) with
    | false =>
      rw [Bool.false_and]
      go_enter Tryz.func87, Tryz.ntmps87
      go_wp2_with fail
      refine kc.out.mono ?_
      rintro e wq ⟨rfl, hq⟩
      obtain rfl := hq.symm
      go_wp2
      go_ret
      exact ⟨rfl, hB1.out⟩
    | true =>
      rw [Bool.true_and]
      cases h2 : decide (u ≤ 1000000000000) with
      | false =>
        go_enter Tryz.func87, Tryz.ntmps87
        go_wp2_with fail
        refine kc.out.mono ?_
        rintro e wq ⟨rfl, hq⟩
        obtain rfl := hq.symm
        go_wp2
        go_ret
        exact ⟨rfl, hB1.out⟩
      | true =>
        go_enter Tryz.func87, Tryz.ntmps87
        go_wp2_with fail
        refine kc.out.mono ?_
        rintro e wq ⟨rfl, hq⟩
        obtain rfl := hq.symm
        go_wp2
        go_ret
        exact ⟨rfl, hB1.out⟩
set_option maxRecDepth 100000 in
set_option maxHeartbeats 8000000 in
theorem RConvert_any (l : List Rt) (A : Option Addr) (cap : Nat) (base c : ByteArray) (u : Int) (tc : ByteArray) (day : Int) (w : World) (hl : InRt w A l) (hll : l.length ≤ 140737488355328) (hbs : base.size ≤ 140737488355328) (hcs : c.size ≤ 140737488355328) (hts : tc.size ≤ 140737488355328) (hz : RtSz l) :
    Calls Tryz.prog 37 #[.slice A l.length cap, .string base, .agg #[.string c, .int .i64 u], .string tc, .int .i64 day] w fun e w' => e = .returned (.tuple #[cvV (convR l base c u tc day).1, .int .i64 (convR l base c u tc day).2]) ∧ Below w.heap.size w w' := by
  have hB1 : Hid (Below w.heap.size w ((w.alloc (.cells #[.string c, .int .i64 u] 35)).alloc (.cells #[.bool false, .string ⟨#[]⟩, .string ⟨#[]⟩] 23))) := ((Below.refl _ w).alloc (Nat.le_refl _) _).alloc (by simp) _
  have ha1 : Hid (Bk ((w.alloc (.cells #[.string c, .int .i64 u] 35)).alloc (.cells #[.bool false, .string ⟨#[]⟩, .string ⟨#[]⟩] 23)) w.heap.size 35 [.string c, .int .i64 u]) := (Bk.new w _ _).alloc _
  have hr1 : Hid (Bk ((w.alloc (.cells #[.string c, .int .i64 u] 35)).alloc (.cells #[.bool false, .string ⟨#[]⟩, .string ⟨#[]⟩] 23)) (w.heap.size + 1) 23 [.bool false, .string ⟨#[]⟩, .string ⟨#[]⟩]) := by have h := Bk.new (w.alloc (.cells #[.string c, .int .i64 u] 35)) 23 [.bool false, .string ⟨#[]⟩, .string ⟨#[]⟩]; rw [World.size_alloc] at h; exact h
  have kp := Lib.hid (RProper_any c u ((w.alloc (.cells #[.string c, .int .i64 u] 35)).alloc (.cells #[.bool false, .string ⟨#[]⟩, .string ⟨#[]⟩] 23)) hcs)
  have kf := Lib.hid (fun cur (hc : cur.size ≤ 140737488355328) W (hW : Below w.heap.size w W) => RFind_any l A cap base cur day W (hl.below hW) hll hbs hc hz)
  obtain ⟨res, hres⟩ : ∃ r, r = convR l base c u tc day := ⟨_, rfl⟩
  rw [← hres]
  unfold convR at hres
  have hl1 := @find_lim l base c day; have hl2 := @find_lim l base tc day
  have kf1 := Lib.hid (kf.out c hcs); have kf2 := Lib.hid (kf.out tc hts)
  clear kf
  obtain ⟨fx, hfx⟩ : ∃ x, x = findR l base c day := ⟨_, rfl⟩; obtain ⟨fy, hfy⟩ : ∃ x, x = findR l base tc day := ⟨_, rfl⟩
  simp only [← hfx] at kf1 hl1 hres; simp only [← hfy] at kf2 hl2 hres
  clear hfx hfy
  obtain ⟨⟨xc, xd, xn, xm⟩, ex⟩ := fx; obtain ⟨⟨yc, yd, yn, ym⟩, ey⟩ := fy
  have hpu : properB c u = true → unitB u = true := fun h => by unfold properB at h; rw [Bool.and_eq_true] at h; exact h.2
  generalize properB c u = pb at kp hres hpu
  replace kf1 : Hid (∀ W, Below w.heap.size w W → Calls Tryz.prog 36 #[.slice A l.length cap, .string base, .string c, .int .i64 day] W fun e w' => e = .returned (.tuple #[.agg #[.string xc, .int .i64 xd, .int .i64 xn, .int .i64 xm], .int .i64 ex]) ∧ Below W.heap.size W w') := kf1
  replace kf2 : Hid (∀ W, Below w.heap.size w W → Calls Tryz.prog 36 #[.slice A l.length cap, .string base, .string tc, .int .i64 day] W fun e w' => e = .returned (.tuple #[.agg #[.string yc, .int .i64 yd, .int .i64 yn, .int .i64 ym], .int .i64 ey]) ∧ Below W.heap.size W w') := kf2
  replace hl1 : ex = 0 → (1 ≤ xn ∧ xn ≤ 1000000) ∧ (1 ≤ xm ∧ xm ≤ 1000000) := hl1
  replace hl2 : ey = 0 → (1 ≤ yn ∧ yn ≤ 1000000) ∧ (1 ≤ ym ∧ ym ≤ 1000000) := hl2
  replace hl := Lib.hid hl; replace hz := Lib.hid hz; replace hl1 := Lib.hid hl1; replace hl2 := Lib.hid hl2; replace hres := Lib.hid hres; replace hpu := Lib.hid hpu
  go_enter Tryz.func37, Tryz.ntmps37
  have a0 := ha1.out.cell (j := 0) rfl
  have a1 := ha1.out.cell (j := 1) rfl
  have a9 := ha1.out.lt
  go_wp2_with fail
  refine kp.out.mono ?_
  rintro e w2 ⟨rfl, hb⟩
  have hB2 := Lib.hid (hB1.out.trans (hb.mono hB1.out.size)); have ha2 := Lib.hid (ha1.out.below hb); have hr2 := Lib.hid (hr1.out.below hb)
  clear hb hB1 ha1 hr1 a0 a1 a9 kp
  have a0 := ha2.out.cell (j := 0) rfl
  have a1 := ha2.out.cell (j := 1) rfl
  have a9 := ha2.out.lt
  have r0 := hr2.out.cell (j := 0) rfl; have p0 := hr2.out.frozen 0
  have r1 := hr2.out.cell (j := 1) rfl; have p1 := hr2.out.frozen 1
  have r2 := hr2.out.cell (j := 2) rfl; have p2 := hr2.out.frozen 2
  have r9 := hr2.out.lt
  cases pb with
  | false =>
    have hrr : res = (none, 1) := hres.out.trans (if_neg (by decide))
    have hB5 : Hid (Below w.heap.size w (((w2.setCell ⟨w.heap.size + 1, 0, none⟩ (.bool false)).setCell ⟨w.heap.size + 1, 1, none⟩ (.string ⟨#[]⟩)).setCell ⟨w.heap.size + 1, 2, none⟩ (.string ⟨#[]⟩))) := (((hB2.out.setCell (p := ⟨w.heap.size + 1, 0, none⟩) (by simp only []; omega) _).setCell (p := ⟨w.heap.size + 1, 1, none⟩) (by simp only []; omega) _).setCell (p := ⟨w.heap.size + 1, 2, none⟩) (by simp only []; omega) _)
    have hR5 : Hid (Bk (((w2.setCell ⟨w.heap.size + 1, 0, none⟩ (.bool false)).setCell ⟨w.heap.size + 1, 1, none⟩ (.string ⟨#[]⟩)).setCell ⟨w.heap.size + 1, 2, none⟩ (.string ⟨#[]⟩)) (w.heap.size + 1) 23 [.bool false, .string ⟨#[]⟩, .string ⟨#[]⟩]) := ((Bk.set hr2.out 0 (.bool false)).set 1 (.string ⟨#[]⟩)).set 2 (.string ⟨#[]⟩)
    go_wp2
    (try simp only [Exit.inBlock, Exit.then])
    have s0 := hR5.out.cell (j := 0) rfl
    have s1 := hR5.out.cell (j := 1) rfl
    have s2 := hR5.out.cell (j := 2) rfl
    have s9 := hR5.out.lt
    refine bodyPost_ret (v := .tuple #[.agg #[.bool false, .string ⟨#[]⟩, .string ⟨#[]⟩], .int .i64 1]) (by simp [results, Tryz.results37, go_sem, s0, s1, s2]) rfl ⟨by rw [hrr]; rfl, hB5.out⟩
  | true =>
    clear r0 r1 r2 r9 p0 p1 p2
    have hu := hpu.out rfl
    have k1 := Lib.hid (kf1.out w2 hB2.out)
    go_wp2_with fail
    refine k1.out.mono ?_
    rintro e w3 ⟨rfl, hb⟩
    have hB3 := Lib.hid (hB2.out.trans (hb.mono hB2.out.size)); have ha3 := Lib.hid (ha2.out.below hb); have hr3 := Lib.hid (hr2.out.below hb)
    clear hb hB2 ha2 hr2 a0 a1 a9 k1 kf1
    by_cases hex : ex = 0
    rotate_left
    · have hrr : res = (none, ex) := hres.out.trans ((if_pos (by trivial)).trans (if_neg hex))
      have m1 : (ex != 0) = true := by rw [bne_iff_ne]; exact hex
      replace hex := Lib.hid hex
      have r0 := hr3.out.cell (j := 0) rfl; have p0 := hr3.out.frozen 0
      have r1 := hr3.out.cell (j := 1) rfl; have p1 := hr3.out.frozen 1
      have r2 := hr3.out.cell (j := 2) rfl; have p2 := hr3.out.frozen 2
      have r9 := hr3.out.lt
      have hB4 : Hid (Below w.heap.size w (((w3.setCell ⟨w.heap.size + 1, 0, none⟩ (.bool false)).setCell ⟨w.heap.size + 1, 1, none⟩ (.string ⟨#[]⟩)).setCell ⟨w.heap.size + 1, 2, none⟩ (.string ⟨#[]⟩))) := (((hB3.out.setCell (p := ⟨w.heap.size + 1, 0, none⟩) (by simp only []; omega) _).setCell (p := ⟨w.heap.size + 1, 1, none⟩) (by simp only []; omega) _).setCell (p := ⟨w.heap.size + 1, 2, none⟩) (by simp only []; omega) _)
      have hB5 : Hid (Below w.heap.size w ((((w3.setCell ⟨w.heap.size + 1, 0, none⟩ (.bool false)).setCell ⟨w.heap.size + 1, 1, none⟩ (.string ⟨#[]⟩)).setCell ⟨w.heap.size + 1, 2, none⟩ (.string ⟨#[]⟩)).alloc (.cells #[.string xc, .int .i64 xd, .int .i64 xn, .int .i64 xm] 42))) := hB4.out.alloc hB4.out.size _
      have hR5 : Hid (Bk ((((w3.setCell ⟨w.heap.size + 1, 0, none⟩ (.bool false)).setCell ⟨w.heap.size + 1, 1, none⟩ (.string ⟨#[]⟩)).setCell ⟨w.heap.size + 1, 2, none⟩ (.string ⟨#[]⟩)).alloc (.cells #[.string xc, .int .i64 xd, .int .i64 xn, .int .i64 xm] 42)) (w.heap.size + 1) 23 [.bool false, .string ⟨#[]⟩, .string ⟨#[]⟩]) := (((Bk.set hr3.out 0 (.bool false)).set 1 (.string ⟨#[]⟩)).set 2 (.string ⟨#[]⟩)).alloc _
      go_wp2
      (try simp only [Exit.inBlock, Exit.then])
      have s0 := hR5.out.cell (j := 0) rfl
      have s1 := hR5.out.cell (j := 1) rfl
      have s2 := hR5.out.cell (j := 2) rfl
      have s9 := hR5.out.lt
      refine bodyPost_ret (v := .tuple #[.agg #[.bool false, .string ⟨#[]⟩, .string ⟨#[]⟩], .int .i64 ex]) (by simp [results, Tryz.results37, go_sem, s0, s1, s2]) rfl ⟨by rw [hrr]; rfl, hB5.out⟩
    · have hx := hl1.out hex
      have hr0 := hres.out.trans ((if_pos (by trivial)).trans (if_pos hex))
      replace hr0 := Lib.hid hr0
      obtain rfl := hex
      have hB4 : Hid (Below w.heap.size w (w3.alloc (.cells #[.string xc, .int .i64 xd, .int .i64 xn, .int .i64 xm] 42))) := hB3.out.alloc hB3.out.size _
      have ha4 := Lib.hid (ha3.out.alloc (.cells #[.string xc, .int .i64 xd, .int .i64 xn, .int .i64 xm] 42)); have hr4 := Lib.hid (hr3.out.alloc (.cells #[.string xc, .int .i64 xd, .int .i64 xn, .int .i64 xm] 42))
      have hx4 : Hid (Bk (w3.alloc (.cells #[.string xc, .int .i64 xd, .int .i64 xn, .int .i64 xm] 42)) w3.heap.size 42 [.string xc, .int .i64 xd, .int .i64 xn, .int .i64 xm]) := Bk.new _ _ _
      have k2 := Lib.hid (kf2.out (w3.alloc (.cells #[.string xc, .int .i64 xd, .int .i64 xn, .int .i64 xm] 42)) hB4.out)
      clear hB3 ha3 hr3
      go_wp2_with fail
      refine k2.out.mono ?_
      rintro e w5 ⟨rfl, hb⟩
      have hB5 := Lib.hid (hB4.out.trans (hb.mono hB4.out.size)); have ha5 := Lib.hid (ha4.out.below hb); have hr5 := Lib.hid (hr4.out.below hb); have hx5 := Lib.hid (hx4.out.below hb)
      clear hb hB4 ha4 hr4 hx4 k2 kf2
      by_cases hey : ey = 0
      rotate_left
      · have hrr : res = (none, ey) := hr0.out.trans (if_neg hey)
        have m1 : (ey != 0) = true := by rw [bne_iff_ne]; exact hey
        replace hey := Lib.hid hey
        replace hB5 : Hid (Below w.heap.size w w5) := hB5
        have r0 := hr5.out.cell (j := 0) rfl; have p0 := hr5.out.frozen 0
        have r1 := hr5.out.cell (j := 1) rfl; have p1 := hr5.out.frozen 1
        have r2 := hr5.out.cell (j := 2) rfl; have p2 := hr5.out.frozen 2
        have r9 := hr5.out.lt
        have hB4 : Hid (Below w.heap.size w (((w5.setCell ⟨w.heap.size + 1, 0, none⟩ (.bool false)).setCell ⟨w.heap.size + 1, 1, none⟩ (.string ⟨#[]⟩)).setCell ⟨w.heap.size + 1, 2, none⟩ (.string ⟨#[]⟩))) := (((hB5.out.setCell (p := ⟨w.heap.size + 1, 0, none⟩) (by simp only []; omega) _).setCell (p := ⟨w.heap.size + 1, 1, none⟩) (by simp only []; omega) _).setCell (p := ⟨w.heap.size + 1, 2, none⟩) (by simp only []; omega) _)
        have hB6 : Hid (Below w.heap.size w ((((w5.setCell ⟨w.heap.size + 1, 0, none⟩ (.bool false)).setCell ⟨w.heap.size + 1, 1, none⟩ (.string ⟨#[]⟩)).setCell ⟨w.heap.size + 1, 2, none⟩ (.string ⟨#[]⟩)).alloc (.cells #[.string yc, .int .i64 yd, .int .i64 yn, .int .i64 ym] 42))) := hB4.out.alloc hB4.out.size _
        have hR6 : Hid (Bk ((((w5.setCell ⟨w.heap.size + 1, 0, none⟩ (.bool false)).setCell ⟨w.heap.size + 1, 1, none⟩ (.string ⟨#[]⟩)).setCell ⟨w.heap.size + 1, 2, none⟩ (.string ⟨#[]⟩)).alloc (.cells #[.string yc, .int .i64 yd, .int .i64 yn, .int .i64 ym] 42)) (w.heap.size + 1) 23 [.bool false, .string ⟨#[]⟩, .string ⟨#[]⟩]) := (((Bk.set hr5.out 0 (.bool false)).set 1 (.string ⟨#[]⟩)).set 2 (.string ⟨#[]⟩)).alloc _
        go_wp2
        (try simp only [Exit.inBlock, Exit.then])
        have s0 := hR6.out.cell (j := 0) rfl
        have s1 := hR6.out.cell (j := 1) rfl
        have s2 := hR6.out.cell (j := 2) rfl
        have s9 := hR6.out.lt
        refine bodyPost_ret (v := .tuple #[.agg #[.bool false, .string ⟨#[]⟩, .string ⟨#[]⟩], .int .i64 ey]) (by simp [results, Tryz.results37, go_sem, s0, s1, s2]) rfl ⟨by rw [hrr]; rfl, hB6.out⟩
      · have hy := hl2.out hey
        have hrr : Hid (res = (some (cvK u xn xm ym yn 2), 0)) := hr0.out.trans (if_pos hey)
        obtain rfl := hey
        have hcr := conv_ref u hx hy
        have hou := (units_dg hu).short (by omega)
        have hxy : ShortQ (ofQ (xn * ym) (xm * yn)) := ofQ_short4 hx hy
        have hu2 : -1000000000000 ≤ u ∧ u ≤ 1000000000000 := by unfold unitB at hu; simpa using hu
        have hm1 := mul4 hx.1 hy.2
        have hm2 := mul4 hx.2 hy.1
        have hsh := cvK_short hu hx.1 hx.2 hy.2 hy.1 2
        obtain ⟨⟨x1, x2⟩, x3, x4⟩ := hx; obtain ⟨⟨y1, y2⟩, y3, y4⟩ := hy; obtain ⟨u1, u2⟩ := hu2; obtain ⟨p1, p2⟩ := hm1; obtain ⟨p3, p4⟩ := hm2
        clear hr0 hres hl1 hl2 hpu
        have hB6 : Hid (Below w.heap.size w (w5.alloc (.cells #[.string yc, .int .i64 yd, .int .i64 yn, .int .i64 ym] 42))) := hB5.out.alloc hB5.out.size _
        have hr6 := Lib.hid (hr5.out.alloc (.cells #[.string yc, .int .i64 yd, .int .i64 yn, .int .i64 ym] 42)); have hx6 := Lib.hid (hx5.out.alloc (.cells #[.string yc, .int .i64 yd, .int .i64 yn, .int .i64 ym] 42))
        have hy6 : Hid (Bk (w5.alloc (.cells #[.string yc, .int .i64 yd, .int .i64 yn, .int .i64 ym] 42)) w5.heap.size 42 [.string yc, .int .i64 yd, .int .i64 yn, .int .i64 ym]) := Bk.new _ _ _
        obtain ⟨g0, n0, d0, q0⟩ := agg_qv (u : Rat)
        obtain ⟨g1, n1, d1, q1⟩ := agg_qv (ofQ (xn * ym) (xm * yn))
        obtain ⟨g2, n2, d2, q2⟩ := agg_qv (cvK u xn xm ym yn 2)
        have ko1 : Hid (Calls Tryz.prog 49 #[.int .i64 u, .int .i64 1] (w5.alloc (.cells #[.string yc, .int .i64 yd, .int .i64 yn, .int .i64 ym] 42)) fun e w' => e = .returned (.tuple #[.agg #[.bool g0, .string n0, .string d0], .int .i64 0]) ∧ Below ((w5.alloc (.cells #[.string yc, .int .i64 yd, .int .i64 yn, .int .i64 ym] 42))).heap.size (w5.alloc (.cells #[.string yc, .int .i64 yd, .int .i64 yn, .int .i64 ym] 42)) w') := by have h := RROf_any u 1 (by omega) (by omega) (by omega) (by omega) (by omega) (w5.alloc (.cells #[.string yc, .int .i64 yd, .int .i64 yn, .int .i64 ym] 42)); rw [ofQ_one, q0] at h; exact h
        have ko2 : Hid (∀ W, Calls Tryz.prog 49 #[.int .i64 (xn * ym), .int .i64 (xm * yn)] W fun e w' => e = .returned (.tuple #[.agg #[.bool g1, .string n1, .string d1], .int .i64 0]) ∧ Below W.heap.size W w') := fun W => by have h := RROf_any (xn * ym) (xm * yn) (by omega) (by omega) (by omega) (by omega) (by omega) W; rw [q1] at h; exact h
        have kM : Hid (∀ W, Calls Tryz.prog 88 #[.agg #[.bool g0, .string n0, .string d0], .agg #[.bool g1, .string n1, .string d1]] W fun e w' => e = .returned (.tuple #[.agg #[.bool g2, .string n2, .string d2], .int .i64 0]) ∧ Below W.heap.size W w') := fun W => by have h := RRMul_short (u : Rat) (ofQ (xn * ym) (xm * yn)) hou hxy W; rw [hcr, q0, q1, q2] at h; exact h
        have hfin : Hid (Ending.returned (.tuple #[.agg #[.bool g2, .string n2, .string d2], .int .i64 0]) = .returned (.tuple #[cvV res.1, .int .i64 res.2])) := by rw [hrr.out, ← q2]; rfl
        clear hcr hou hxy hsh q0 q1 q2
        have a0 := ha5.out.cell (j := 0) rfl
        have a1 := ha5.out.cell (j := 1) rfl
        have a9 := ha5.out.lt
        clear hB5 ha5 hr5 hx5
        go_wp2_with fail
        refine ko1.out.mono ?_
        rintro e w7 ⟨rfl, hb⟩
        have hB7 := Lib.hid (hB6.out.trans (hb.mono hB6.out.size)); have hr7 := Lib.hid (hr6.out.below hb); have hx7 := Lib.hid (hx6.out.below hb); have hy7 := Lib.hid (hy6.out.below hb)
        clear hb hB6 hr6 hx6 hy6 ko1 a0 a1 a9
        have x20 := hx7.out.cell (j := 2) rfl; have y20 := hy7.out.cell (j := 2) rfl
        have x30 := hx7.out.cell (j := 3) rfl; have y30 := hy7.out.cell (j := 3) rfl
        have x90 := hx7.out.lt; have y90 := hy7.out.lt
        have hB8 : Hid (Below w.heap.size w (w7.alloc (.cells #[.bool g0, .string n0, .string d0] 23))) := hB7.out.alloc hB7.out.size _
        have hr8 := Lib.hid (hr7.out.alloc (.cells #[.bool g0, .string n0, .string d0] 23))
        have hs8 : Hid (Bk (w7.alloc (.cells #[.bool g0, .string n0, .string d0] 23)) w7.heap.size 23 [.bool g0, .string n0, .string d0]) := Bk.new _ _ _
        have hne0 : Hid (w.heap.size + 1 < w7.heap.size) := hr7.out.lt
        have k3 := Lib.hid (ko2.out (w7.alloc (.cells #[.bool g0, .string n0, .string d0] 23)))
        clear hB7 hr7 hx7 hy7 ko2
        go_wp2_with fail
        refine k3.out.mono ?_
        rintro e w9 ⟨rfl, hb⟩
        have hB9 := Lib.hid (hB8.out.trans (hb.mono hB8.out.size)); have hr9 := Lib.hid (hr8.out.below hb); have hs9 := Lib.hid (hs8.out.below hb)
        clear hb hB8 hr8 hs8 k3 x20 x30 y20 y30 x90 y90
        have hB10 : Hid (Below w.heap.size w (w9.alloc (.cells #[.bool g1, .string n1, .string d1] 23))) := hB9.out.alloc hB9.out.size _
        have hr10 := Lib.hid (hr9.out.alloc (.cells #[.bool g1, .string n1, .string d1] 23))
        have k4 := Lib.hid (kM.out (w9.alloc (.cells #[.bool g1, .string n1, .string d1] 23)))
        have v0 := hs9.out.cell (j := 0) rfl; have v1 := hs9.out.cell (j := 1) rfl; have v2 := hs9.out.cell (j := 2) rfl; have v9 := hs9.out.lt
        clear hB9 hr9 hs9 kM
        go_wp2_with fail
        refine k4.out.mono ?_
        rintro e w11 ⟨rfl, hb⟩
        have hB11 := Lib.hid (hB10.out.trans (hb.mono hB10.out.size)); have hr11 := Lib.hid (hr10.out.below hb)
        clear hb hB10 hr10 k4 v0 v1 v2 v9
        have r0 := hr11.out.cell (j := 0) rfl; have p0 := hr11.out.frozen 0
        have r1 := hr11.out.cell (j := 1) rfl; have p1 := hr11.out.frozen 1
        have r2 := hr11.out.cell (j := 2) rfl; have p2 := hr11.out.frozen 2
        have r9 := hr11.out.lt
        have hB5 : Hid (Below w.heap.size w (((w11.setCell ⟨w.heap.size + 1, 0, none⟩ (.bool g2)).setCell ⟨w.heap.size + 1, 1, none⟩ (.string n2)).setCell ⟨w.heap.size + 1, 2, none⟩ (.string d2))) := (((hB11.out.setCell (p := ⟨w.heap.size + 1, 0, none⟩) (by simp only []; omega) _).setCell (p := ⟨w.heap.size + 1, 1, none⟩) (by simp only []; omega) _).setCell (p := ⟨w.heap.size + 1, 2, none⟩) (by simp only []; omega) _)
        have hR5 : Hid (Bk (((w11.setCell ⟨w.heap.size + 1, 0, none⟩ (.bool g2)).setCell ⟨w.heap.size + 1, 1, none⟩ (.string n2)).setCell ⟨w.heap.size + 1, 2, none⟩ (.string d2)) (w.heap.size + 1) 23 [.bool g2, .string n2, .string d2]) := ((Bk.set hr11.out 0 (.bool g2)).set 1 (.string n2)).set 2 (.string d2)
        go_wp2
        (try simp only [Exit.inBlock, Exit.then])
        have s0 := hR5.out.cell (j := 0) rfl
        have s1 := hR5.out.cell (j := 1) rfl
        have s2 := hR5.out.cell (j := 2) rfl
        have s9 := hR5.out.lt
        refine bodyPost_ret (v := .tuple #[.agg #[.bool g2, .string n2, .string d2], .int .i64 0]) (by simp [results, Tryz.results37, go_sem, s0, s1, s2]) rfl ⟨hfin.out, hB5.out⟩
end Mo
end Go.Proofs.YtpmlhgmmobpilaaGreatDoor

namespace Go.Proofs.YtpmlhgmmobpilaaGreatDoor
namespace Mo
open Nt Ci
theorem occ_sp (l : List UInt8) (c : UInt8) (j : Nat) : Lib.occAt l [c] j = (l[j]? == some c) := by
  unfold Lib.occAt
  rw [← List.head?_drop]
  cases l.drop j with
  | nil => rfl
  | cons a t =>
    simp [List.isPrefixOf]
    exact Bool.beq_comm
theorem cut_sp (a b : List UInt8) (h : ∀ x ∈ a, x ≠ 32) : Lib.cut (a ++ 32 :: b) [32] = (a, b, true) := by
  have hi : Lib.index (a ++ 32 :: b) [32] = a.length := by
    refine Lib.index_first (by simp) ?_ ?_
    · rw [occ_sp]; simp
    · intro j hj
      rw [occ_sp, List.getElem?_append_left hj, List.getElem?_eq_getElem hj]
      have := h _ (List.getElem_mem hj)
      simpa using this
  unfold Lib.cut
  rw [hi, if_pos (by omega)]
  simp
theorem ident_sp {c : ByteArray} (h : identB c = true) : ∀ x ∈ c.data.toList, x ≠ 32 := by
  unfold identB at h
  simp only [Bool.and_eq_true, decide_eq_true_eq] at h
  intro x hx e
  obtain ⟨i, hi, rfl⟩ := List.getElem_of_mem hx
  have hi2 : i < c.size := by rw [Lib.size_eq]; exact hi
  have h1 := h.1 i hi2
  have e2 : c[i] = c.data.toList[i] := by simp [ByteArray.getElem_eq_getElem_data]
  rw [e2, e] at h1
  unfold OkAt at h1
  simp at h1
theorem itoa_back {u : Int} (h0 : -1000000000000 ≤ u) (h1 : u ≤ 1000000000000) : Lib.atoiAll (Lib.itoa u) = .ok u := by
  unfold Lib.itoa
  by_cases c : u < 0
  · rw [if_pos c, atoi_neg _ (by omega), if_pos (by omega)]
    congr 1
    omega
  · rw [if_neg c]
    have h := atoi_num u.toNat
    rw [if_pos (by omega)] at h
    rw [show Lib.decDigits u.toNat = (num u.toNat).data.toList from rfl, h]
    congr 1
    omega
theorem textA_list (c : ByteArray) (u : Int) : (textA c u).data.toList = c.data.toList ++ 32 :: Lib.itoa u := by
  unfold textA
  rw [ByteArray.toList_data_append, ByteArray.toList_data_append]
  simp
theorem ba_ext {a b : ByteArray} (h : a.data.toList = b.data.toList) : a = b := by
  rcases a with ⟨a⟩
  rcases b with ⟨b⟩
  simp only [Array.toList_inj] at h
  rw [h]
theorem cutC_text {c : ByteArray} {u : Int} (h : properB c u = true) : cutC (textA c u) = c ∧ cutD (textA c u) = ⟨(Lib.itoa u).toArray⟩ := by
  obtain ⟨h1, _⟩ := proper_parts h
  unfold cutC cutD
  rw [textA_list, cut_sp _ _ (ident_sp h1)]
  exact ⟨ba_ext (by simp), rfl⟩
theorem textR_ok {c : ByteArray} {u : Int} (h : properB c u = true) : textR c u = (textA c u, 0) := if_pos h
theorem textR_zero {c : ByteArray} {u : Int} (h : (textR c u).2 = 0) : properB c u = true := by
  unfold textR at h
  by_cases c : properB c u = true
  · exact c
  · rw [if_neg c] at h; cases h
/-- Parse gives back what Text was told. -/
theorem parse_text {c : ByteArray} {u : Int} (h : properB c u = true) : parseR (textA c u) = ((c, u), 0) := by
  obtain ⟨h1, h2⟩ := cutC_text h
  obtain ⟨_, _, _, h3, h4⟩ := proper_parts h
  have hn : numO (cutD (textA c u)) = some u := by
    rw [h2]
    unfold numO
    rw [show (⟨(Lib.itoa u).toArray⟩ : ByteArray).data.toList = Lib.itoa u from rfl, itoa_back h3 h4]
  unfold parseR
  rw [hn, h1]
  exact if_pos ⟨by rw [textR_ok h], by rw [textR_ok h]⟩
/-- What Parse accepts is the text of its result. -/
theorem parse_ok {t : ByteArray} : parseR t = ((⟨#[]⟩, 0), 5) ∨ ∃ c u, parseR t = ((c, u), 0) ∧ properB c u = true ∧ textA c u = t := by
  unfold parseR
  cases hn : numO (cutD t) with
  | none => exact .inl rfl
  | some n =>
    by_cases c : (textR (cutC t) n).2 = 0 ∧ (textR (cutC t) n).1 = t
    · right
      have hp := textR_zero c.1
      refine ⟨cutC t, n, if_pos c, hp, ?_⟩
      have h := c.2
      rwa [textR_ok hp] at h
    · exact .inl (if_neg c)
end Mo
end Go.Proofs.YtpmlhgmmobpilaaGreatDoor

namespace Go.Proofs.YtpmlhgmmobpilaaGreatDoor
open Go.RowKit Go.Shelf
namespace Mo
open Nt Ci
theorem run_rune32 (d : Nat) (h : d < 10) (w : World) : (convert 3 21 (.int .i64 (48 + (d : Int)))).run Tryz.prog w = .ok (.int .i32 (48 + (d : Int))) w := by
  obtain rfl | rfl | rfl | rfl | rfl | rfl | rfl | rfl | rfl | rfl : d = 0 ∨ d = 1 ∨ d = 2 ∨ d = 3 ∨ d = 4 ∨ d = 5 ∨ d = 6 ∨ d = 7 ∨ d = 8 ∨ d = 9 := by omega
  all_goals kernel_rfl
theorem run_rune (d : Nat) (h : d < 10) (w : World) : (convert 21 9 (.int .i32 (48 + (d : Int)))).run Tryz.prog w = .ok (.string ⟨#[dch d]⟩) w := by
  rw [dch_eq]
  obtain rfl | rfl | rfl | rfl | rfl | rfl | rfl | rfl | rfl | rfl : d = 0 ∨ d = 1 ∨ d = 2 ∨ d = 3 ∨ d = 4 ∨ d = 5 ∨ d = 6 ∨ d = 7 ∨ d = 8 ∨ d = 9 := by omega
  all_goals kernel_rfl
set_option maxRecDepth 100000 in
set_option maxHeartbeats 4000000 in
theorem rdec_nat (n : Nat) (w : World) (hn : n ≤ 1000000000000) :
    Calls Tryz.prog 90 #[.int .i64 (n : Int)] w fun e w' => e = .returned (.string (num n)) ∧ w = w' := by
  obtain ⟨d, hd⟩ : ∃ d, d = n % 10 := ⟨_, rfl⟩
  have hdl : d < 10 := by omega
  have hdi : (n : Int).tmod 10 = (d : Int) := by rw [Int.tmod_eq_emod_of_nonneg (by omega)]; omega
  have hqi : (n : Int).tdiv 10 = ((n / 10 : Nat) : Int) := by rw [Int.tdiv_eq_ediv_of_nonneg (by omega)]; omega
  have hr1 := run_rune32 d hdl
  have hr2 := run_rune d hdl
  have hneg : decide ((n : Int) < 0) = false := decide_eq_false (by omega)
  have HD := Lib.hid hd
  clear hd
  go_enter Tryz.func90, Tryz.ntmps90
  go_wp2
  clear hdi hqi hr1 hr2 hneg
  go_loop [0, 3] (fun m t => ∃ (k : Nat) (s : ByteArray), m = .int .i64 (k : Int) ∧ t = .string s ∧ k ≤ n ∧ DgRel n k s) (fun m _ => (intOf m).toNat)
  case atStart => exact ⟨n / 10, _, rfl, rfl, Nat.div_le_self _ _, by rw [dch_eq, HD.out]; exact DgRel.start n⟩
  case round =>
    obtain ⟨k, s, rfl, rfl, hk, hr⟩ := hrel
    by_cases h0 : k = 0
    · subst h0
      have hs := Lib.hid hr.done
      clear hr
      go_wp2
      go_ret
      exact ⟨ret_str hs.out, rfl⟩
    · obtain ⟨d, hd⟩ : ∃ d, d = k % 10 := ⟨_, rfl⟩
      have hdl : d < 10 := by omega
      have hdi : (k : Int).tmod 10 = (d : Int) := by rw [Int.tmod_eq_emod_of_nonneg (by omega)]; omega
      have hqi : (k : Int).tdiv 10 = ((k / 10 : Nat) : Int) := by rw [Int.tdiv_eq_ediv_of_nonneg (by omega)]; omega
      have hr1 := run_rune32 d hdl
      have hr2 := run_rune d hdl
      have HD := Lib.hid hd
      have hz := hr.size (by omega)
      have hpos : (0 : Int) < (k : Int) := by omega
      replace hr := Lib.hid hr
      clear hd
      go_wp2
      go_round
      case rel => exact ⟨k / 10, _, rfl, rfl, by omega, by rw [dch_eq, HD.out]; exact hr.out.step (by omega)⟩
      case measure => simp [intOf]; omega
set_option maxRecDepth 100000 in
set_option maxHeartbeats 4000000 in
theorem rdec_any (u : Int) (w : World) (h0 : -1000000000000 ≤ u) (h1 : u ≤ 1000000000000) :
    Calls Tryz.prog 90 #[.int .i64 u] w fun e w' => e = .returned (.string ⟨(Lib.itoa u).toArray⟩) ∧ w = w' := by
  by_cases c : u < 0
  · have m1 : decide (u < 0) = true := decide_eq_true c
    obtain ⟨n, hn⟩ : ∃ n : Nat, -u = (n : Int) := ⟨(-u).toNat, by omega⟩
    have kr := Lib.hid (rdec_nat n w (by omega))
    have hsz : (num n).size ≤ 20 := by
      rw [num_size]
      have := (decDigits_len_iff n 14 (by omega)).2 (by omega)
      omega
    have hres : Hid ((⟨#[45]⟩ : ByteArray) ++ num n = ⟨(Lib.itoa u).toArray⟩) := by
      refine ba_ext ?_
      unfold Lib.itoa
      rw [if_pos c, show u.natAbs = n by omega, ByteArray.toList_data_append]
      rfl
    replace c := Lib.hid c
    go_enter Tryz.func90, Tryz.ntmps90
    go_wp2_with fail
    (try rw [hn])
    refine kr.out.mono ?_
    rintro e w2 ⟨rfl, rfl⟩
    go_wp2
    go_ret
    exact ⟨ret_str hres.out, rfl⟩
  · obtain ⟨n, rfl⟩ : ∃ n : Nat, u = (n : Int) := ⟨u.toNat, by omega⟩
    refine (rdec_nat n w (by omega)).mono ?_
    rintro e w2 ⟨rfl, rfl⟩
    refine ⟨ret_str (ba_ext ?_), rfl⟩
    unfold Lib.itoa
    rw [if_neg c, show ((n : Int)).toNat = n by omega]
    rfl
set_option maxRecDepth 100000 in
theorem RText_any (c : ByteArray) (u : Int) (w : World) (hc : c.size ≤ 140737488355328) :
    Calls Tryz.prog 39 #[.agg #[.string c, .int .i64 u]] w fun e w' => e = .returned (.tuple #[.string (textR c u).1, .int .i64 (textR c u).2]) ∧ Below w.heap.size w w' := by
  have hB1 : Hid (Below w.heap.size w (w.alloc (.cells #[.string c, .int .i64 u] 35))) := (Below.refl _ w).alloc (Nat.le_refl _) _
  have ha1 : Hid (Bk (w.alloc (.cells #[.string c, .int .i64 u] 35)) w.heap.size 35 [.string c, .int .i64 u]) := Bk.new w _ _
  have kp := Lib.hid (RProper_any c u (w.alloc (.cells #[.string c, .int .i64 u] 35)) hc)
  have a0 := ha1.out.cell (j := 0) rfl
  have a1 := ha1.out.cell (j := 1) rfl
  have a9 := ha1.out.lt
  cases hp : properB c u with
  | false =>
    have hr : textR c u = (⟨#[]⟩, 1) := if_neg (by rw [hp]; decide)
    rw [hr]
    rw [hp] at kp
    clear hp hr
    go_enter Tryz.func39, Tryz.ntmps39
    go_wp2_with fail
    refine kp.out.mono ?_
    rintro e w2 ⟨rfl, hb⟩
    have hB2 := Lib.hid (hB1.out.trans (hb.mono hB1.out.size))
    clear hb
    go_wp2
    go_ret2
    exact ⟨rfl, hB2.out⟩
  | true =>
    have hr : textR c u = (textA c u, 0) := if_pos hp
    obtain ⟨_, z1, z2, z3, z4⟩ := proper_parts hp
    rw [hr]
    rw [hp] at kp
    clear hp hr
    have ki := Lib.hid (fun W => rdec_any u W (by omega) (by omega))
    have hta : Hid (textA c u = c ++ ⟨#[32]⟩ ++ ⟨(Lib.itoa u).toArray⟩) := rfl
    have hil := itoa_len z3 z4
    generalize Lib.itoa u = it at ki hta hil
    go_enter Tryz.func39, Tryz.ntmps39
    go_wp2_with fail
    refine kp.out.mono ?_
    rintro e w2 ⟨rfl, hb⟩
    have hB2 := Lib.hid (hB1.out.trans (hb.mono hB1.out.size))
    have ha2 := Lib.hid (ha1.out.below hb)
    have ha2d : Hid (Bk w2.drew w.heap.size 35 [.string c, .int .i64 u]) := ha2.out.below (Below.refl _ _).drew
    have hB2d : Hid (Below w.heap.size w w2.drew) := hB2.out.drew
    clear hb a0 a1 a9 kp
    have a0 := ha2.out.cell (j := 0) rfl
    have a1 := ha2.out.cell (j := 1) rfl
    have a9 := ha2.out.lt
    go_wp2_with fail
    have hn1 : ¬ 9223372036854775807 < c.size + 1 := by omega
    have hn2 : ¬ 9223372036854775807 < c.size + 1 + it.length := by omega
    go_region_held3 (fun w' => w'.cell? ⟨w.heap.size, 0, none⟩ = some (.string c) ∧ w'.cell? ⟨w.heap.size, 1, none⟩ = some (.int .i64 u)) (first | (with_reducible exact ⟨ha2.out.cell (j := 0) rfl, ha2.out.cell (j := 1) rfl⟩) | (with_reducible exact ⟨ha2d.out.cell (j := 0) rfl, ha2d.out.cell (j := 1) rfl⟩) | go_keep)
      (first | (go_at_call 90; refine (ki.out _).mono ?_; rintro e w3 ⟨rfl, rfl⟩))
    go_wp2
    go_ret2
    exact ⟨by rw [hta.out]; rfl, hB2d.out⟩
end Mo
end Go.Proofs.YtpmlhgmmobpilaaGreatDoor

namespace Go.Proofs.YtpmlhgmmobpilaaGreatDoor
open Go.RowKit Go.Shelf
namespace Mo
open Nt Ci
/-- The number of the digits in a row of bytes, other bytes left out. -/
def dsum (l : List UInt8) : Nat := l.foldl (fun v c => if 48 ≤ c.toNat ∧ c.toNat ≤ 57 then 10 * v + (c.toNat - 48) else v) 0
theorem dsum_snoc (l : List UInt8) (c : UInt8) : dsum (l ++ [c]) = if 48 ≤ c.toNat ∧ c.toNat ≤ 57 then 10 * dsum l + (c.toNat - 48) else dsum l := by
  unfold dsum
  rw [List.foldl_append]
  rfl
theorem dsum_take {s : ByteArray} {k : Nat} (h : k < s.size) : dsum (s.data.toList.take (k + 1)) = if 48 ≤ s[k].toNat ∧ s[k].toNat ≤ 57 then 10 * dsum (s.data.toList.take k) + (s[k].toNat - 48) else dsum (s.data.toList.take k) := by
  rw [List.take_succ_eq_append_getElem (by simpa using h), dsum_snoc]
  rfl
theorem dsum_lt (l : List UInt8) : ∀ k, dsum (l.take k) < 10 ^ k := by
  intro k
  induction k with
  | zero => simp [dsum]
  | succ k ih =>
    by_cases h : k < l.length
    · rw [List.take_succ_eq_append_getElem h, dsum_snoc, Nat.pow_succ]
      split <;> omega
    · rw [List.take_of_length_le (by omega)]
      rw [List.take_of_length_le (by omega)] at ih
      exact Nat.lt_of_lt_of_le ih (Nat.pow_le_pow_right (by omega) (by omega))
theorem dsum_dig : ∀ {l : List UInt8}, (∀ c ∈ l, isDig c) → ∀ v, l.foldl (fun v c => if 48 ≤ c.toNat ∧ c.toNat ≤ 57 then 10 * v + (c.toNat - 48) else v) v = v * 10 ^ l.length + dval l := by
  intro l
  induction l with
  | nil => intro _ v; simp [dval]
  | cons c l ih =>
    intro h v
    have hc := h c List.mem_cons_self
    rw [List.foldl_cons, if_pos ⟨hc.1, hc.2⟩, ih (fun d hd => h d (List.mem_cons_of_mem _ hd)), List.length_cons, Nat.pow_succ]
    have e : dval (c :: l) = (c.toNat - 48) * 10 ^ l.length + dval l := by
      have := dval_append [c] l
      rw [List.singleton_append] at this
      rw [this]
      simp [dval]
    rw [e, Nat.add_mul]
    have : 10 * v * 10 ^ l.length = v * (10 ^ l.length * 10) := by rw [Nat.mul_comm 10 v, Nat.mul_assoc, Nat.mul_comm 10]
    omega
theorem dsum_dec (n : Nat) : dsum (Lib.decDigits n) = n := by
  unfold dsum
  rw [dsum_dig (decDigits_dig n), dval_decDigits]
  omega
theorem dsum_neg (l : List UInt8) : dsum (45 :: l) = dsum l := by
  unfold dsum
  rw [List.foldl_cons, if_neg (by decide)]
/-- The number that the reference reads. -/
def signB (s : ByteArray) : Bool := decide (s.data.toList.head? = some 45)
def candN (s : ByteArray) : Int := if signB s = true then - (dsum (s.data.toList.take 15) : Int) else dsum (s.data.toList.take 15)
theorem candN_itoa {u : Int} (h0 : -1000000000000 ≤ u) (h1 : u ≤ 1000000000000) : candN ⟨(Lib.itoa u).toArray⟩ = u := by
  unfold candN signB
  show (if decide ((Lib.itoa u).toArray.toList.head? = some 45) = true then - (dsum ((Lib.itoa u).toArray.toList.take 15) : Int) else (dsum ((Lib.itoa u).toArray.toList.take 15) : Int)) = u
  have hl : ∀ n : Nat, n ≤ 1000000000000 → (Lib.decDigits n).length ≤ 14 := fun n hn => by
    have := (decDigits_len_iff n 14 (by omega)).2 (by omega)
    omega
  unfold Lib.itoa
  by_cases c : u < 0
  · rw [if_pos c]
    have := hl u.natAbs (by omega)
    rw [List.take_of_length_le (by simp; omega)]
    simp only [List.head?_cons, decide_true, if_true]
    rw [dsum_neg, dsum_dec]
    omega
  · rw [if_neg c]
    have := hl u.toNat (by omega)
    rw [List.take_of_length_le (by simp; omega)]
    have hne : ¬ (Lib.decDigits u.toNat).head? = some 45 := by
      intro e
      have hm : (45 : UInt8) ∈ Lib.decDigits u.toNat := List.mem_of_mem_head? e
      have := (decDigits_dig u.toNat _ hm).1
      exact absurd this (by decide)
    rw [if_neg (by simpa using hne), dsum_dec]
    omega
/-- The text ahead of a place, and behind it. -/
def headT (t : ByteArray) (i : Nat) : ByteArray := t.extract 0 i
def tailT (t : ByteArray) (i : Nat) : ByteArray := t.extract (i + 1) t.size
theorem first_sp {c : ByteArray} {u : Int} (hc : identB c = true) {i : Nat} (hi : i < (textA c u).size) (h1 : ∀ j (h : j < (textA c u).size), j < i → (textA c u)[j] ≠ 32) (h2 : (textA c u)[i] = 32) : i = c.size := by
  have hl := textA_list c u
  have hg : ∀ j (h : j < (textA c u).size), (textA c u).data.toList[j]? = some ((textA c u)[j]) := fun j h => by
    rw [List.getElem?_eq_getElem (by simpa using h)]; rfl
  have hcs : c.data.toList.length = c.size := by simp
  have hsz : c.size < (textA c u).size := by
    have : (textA c u).data.toList.length = (textA c u).size := by simp
    rw [← this, hl, List.length_append, List.length_cons, hcs]; omega
  rcases Nat.lt_trichotomy i c.size with a | a | a
  · exfalso
    have e := hg i hi
    rw [hl, List.getElem?_append_left (by omega), List.getElem?_eq_getElem (by omega)] at e
    injection e with e
    exact ident_sp hc _ (List.getElem_mem (by omega : i < c.data.toList.length)) (e.trans h2)
  · exact a
  · exfalso
    have e := hg c.size hsz
    rw [hl, List.getElem?_append_right (by omega), hcs, Nat.sub_self] at e
    injection e with e
    exact h1 c.size hsz a e.symm
theorem parse_cand {t : ByteArray} {i : Nat} (hi : i < t.size) (h1 : ∀ j (h : j < t.size), j < i → t[j] ≠ 32) (h2 : t[i] = 32) :
    parseR t = if (textR (headT t i) (candN (tailT t i))).2 = 0 ∧ (textR (headT t i) (candN (tailT t i))).1 = t then ((headT t i, candN (tailT t i)), 0) else ((⟨#[]⟩, 0), 5) := by
  split
  · next h =>
    have hp := textR_zero h.1
    have e : t = textA (headT t i) (candN (tailT t i)) := by
      have := h.2
      rw [textR_ok hp] at this
      exact this.symm
    have := parse_text hp
    rw [← e] at this
    exact this
  · next h =>
    rcases parse_ok (t := t) with e | ⟨c, u, e, hp, ht⟩
    · exact e
    · exfalso
      apply h
      obtain ⟨p1, _, _, p4, p5⟩ := proper_parts hp
      subst ht
      have ei := first_sp p1 hi h1 h2
      have hl := textA_list c u
      have hcs : c.data.toList.length = c.size := by simp
      have ea : headT (textA c u) i = c := ba_ext (by
        unfold headT
        rw [ByteArray.data_extract, Array.toList_extract, hl, ei]
        simp)
      have eb : tailT (textA c u) i = ⟨(Lib.itoa u).toArray⟩ := ba_ext (by
        unfold tailT
        rw [ByteArray.data_extract, Array.toList_extract, ei]
        have hs : (textA c u).size = (textA c u).data.toList.length := by simp
        have hd : List.drop (c.size + 1) (c.data.toList ++ 32 :: Lib.itoa u) = Lib.itoa u := by
          rw [← hcs, ← List.drop_drop, List.drop_left, List.drop_succ_cons, List.drop_zero]
        rw [hs, hl, List.extract, hd]
        rw [List.take_of_length_le]
        simp; omega)
      rw [ea, eb, candN_itoa p4 p5, textR_ok hp]
      exact ⟨rfl, rfl⟩
theorem parse_none {t : ByteArray} {i : Nat} (h1 : ∀ j (h : j < t.size), j < i → t[j] ≠ 32) (h2 : i = t.size ∨ i = 30) : parseR t = ((⟨#[]⟩, 0), 5) := by
  rcases parse_ok (t := t) with e | ⟨c, u, e, hp, ht⟩
  · exact e
  · exfalso
    obtain ⟨p1, p2, _, _, _⟩ := proper_parts hp
    subst ht
    have hl := textA_list c u
    have hcs : c.data.toList.length = c.size := by simp
    have hsz : c.size < (textA c u).size := by
      have : (textA c u).data.toList.length = (textA c u).size := by simp
      rw [← this, hl, List.length_append, List.length_cons, hcs]; omega
    have e : (textA c u).data.toList[c.size]? = some ((textA c u)[c.size]) := by
      rw [List.getElem?_eq_getElem (by simpa using hsz)]; rfl
    rw [hl, List.getElem?_append_right (by omega), hcs, Nat.sub_self] at e
    injection e with e
    exact h1 c.size hsz (by omega) e.symm
set_option maxRecDepth 100000 in
set_option maxHeartbeats 8000000 in
theorem RParse_any (t : ByteArray) (w : World) (ht : t.size ≤ 1000000) :
    Calls Tryz.prog 41 #[.string t] w fun e w' => e = .returned (.tuple #[.agg #[.string (parseR t).1.1, .int .i64 (parseR t).1.2], .int .i64 (parseR t).2]) ∧ Below w.heap.size w w' := by
  have hB1 : Hid (Below w.heap.size w (w.alloc (.cells #[.string ⟨#[]⟩, .int .i64 0] 35))) := (Below.refl _ w).alloc (Nat.le_refl _) _
  have hr1 : Hid (Bk (w.alloc (.cells #[.string ⟨#[]⟩, .int .i64 0] 35)) w.heap.size 35 [.string ⟨#[]⟩, .int .i64 0]) := Bk.new w _ _
  have hpn := Lib.hid (fun i h1 h2 => parse_none (t := t) (i := i) h1 h2)
  have hpc := Lib.hid (fun i hi h1 h2 => parse_cand (t := t) (i := i) hi h1 h2)
  generalize parseR t = res at hpn hpc ⊢
  obtain ⟨⟨rc, ru⟩, re⟩ := res
  have hN0 : Hid (∀ j (h : j < t.size), j < 0 → t[j] ≠ 32) := fun j _ h => absurd h (Nat.not_lt_zero _)
  go_enter Tryz.func41, Tryz.ntmps41
  go_wp2_with fail
  go_loopw [4] (fun ix wr => ∃ i : Nat, i ≤ t.size ∧ i ≤ 30 ∧ ix = .int .i64 (i : Int) ∧ Hid (Below w.heap.size w wr) ∧ Hid (Bk wr w.heap.size 35 [.string ⟨#[]⟩, .int .i64 0]) ∧ Hid (∀ j (h : j < t.size), j < i → t[j] ≠ 32)) (fun ix _ => 30 - (intOf ix).toNat)
  case atStart => exact ⟨0, Nat.zero_le _, by omega, rfl, hB1, hr1, hN0⟩
  case round =>
    obtain ⟨i, hi1, hi2, rfl, hB, hr, hN⟩ := hrel
    clear hB1 hr1 hN0
    obtain ⟨wz, rfl⟩ : ∃ z, z = wr := ⟨_, rfl⟩
    by_cases hlt : i < t.size
    rotate_left
    · have hres : Hid (((rc, ru), re) = (((⟨#[]⟩ : ByteArray), (0 : Int)), (5 : Int))) := hpn.out i hN.out (.inl (by omega))
      obtain rfl : i = t.size := by omega
      clear hpn hpc hN
      have r0 := hr.out.cell (j := 0) rfl; have p0 := hr.out.frozen 0; have r1 := hr.out.cell (j := 1) rfl; have p1 := hr.out.frozen 1; have r9 := hr.out.lt
      have hB5 : Hid (Below w.heap.size w ((wz.setCell ⟨w.heap.size, 0, none⟩ (.string ⟨#[]⟩)).setCell ⟨w.heap.size, 1, none⟩ (.int .i64 0))) := ((hB.out.setCell (p := ⟨w.heap.size, 0, none⟩) (Nat.le_refl _) _).setCell (p := ⟨w.heap.size, 1, none⟩) (Nat.le_refl _) _)
      have hR5 : Hid (Bk ((wz.setCell ⟨w.heap.size, 0, none⟩ (.string ⟨#[]⟩)).setCell ⟨w.heap.size, 1, none⟩ (.int .i64 0)) w.heap.size 35 [.string ⟨#[]⟩, .int .i64 0]) := (Bk.set hr.out 0 (.string ⟨#[]⟩)).set 1 (.int .i64 0)
      go_wp2
      (try simp only [Exit.inBlock, Exit.then])
      have s0 := hR5.out.cell (j := 0) rfl; have s1 := hR5.out.cell (j := 1) rfl; have s9 := hR5.out.lt
      refine bodyPost_ret (v := .tuple #[.agg #[.string ⟨#[]⟩, .int .i64 0], .int .i64 5]) (by simp [results, Tryz.results41, go_sem, s0, s1]) rfl ⟨by have := hres.out; simp only [Prod.mk.injEq] at this; obtain ⟨⟨rfl, rfl⟩, rfl⟩ := this; rfl, hB5.out⟩
    · have j0 : (0 : Int) ≤ (i : Int) := by omega
      have j1 : (i : Int) < (t.size : Int) := by omega
      by_cases h30 : i < 30
      rotate_left
      · have hres : Hid (((rc, ru), re) = (((⟨#[]⟩ : ByteArray), (0 : Int)), (5 : Int))) := hpn.out i hN.out (.inr (by omega))
        obtain rfl : i = 30 := by omega
        clear hpn hpc hN
        have r0 := hr.out.cell (j := 0) rfl; have p0 := hr.out.frozen 0; have r1 := hr.out.cell (j := 1) rfl; have p1 := hr.out.frozen 1; have r9 := hr.out.lt
        have hB5 : Hid (Below w.heap.size w ((wz.setCell ⟨w.heap.size, 0, none⟩ (.string ⟨#[]⟩)).setCell ⟨w.heap.size, 1, none⟩ (.int .i64 0))) := ((hB.out.setCell (p := ⟨w.heap.size, 0, none⟩) (Nat.le_refl _) _).setCell (p := ⟨w.heap.size, 1, none⟩) (Nat.le_refl _) _)
        have hR5 : Hid (Bk ((wz.setCell ⟨w.heap.size, 0, none⟩ (.string ⟨#[]⟩)).setCell ⟨w.heap.size, 1, none⟩ (.int .i64 0)) w.heap.size 35 [.string ⟨#[]⟩, .int .i64 0]) := (Bk.set hr.out 0 (.string ⟨#[]⟩)).set 1 (.int .i64 0)
        go_wp2
        (try simp only [Exit.inBlock, Exit.then])
        have s0 := hR5.out.cell (j := 0) rfl; have s1 := hR5.out.cell (j := 1) rfl; have s9 := hR5.out.lt
        refine bodyPost_ret (v := .tuple #[.agg #[.string ⟨#[]⟩, .int .i64 0], .int .i64 5]) (by simp [results, Tryz.results41, go_sem, s0, s1]) rfl ⟨by have := hres.out; simp only [Prod.mk.injEq] at this; obtain ⟨⟨rfl, rfl⟩, rfl⟩ := this; rfl, hB5.out⟩
      · have hNn : Hid (t[i] ≠ 32 → ∀ j (h : j < t.size), j < i + 1 → t[j] ≠ 32) := fun h j hj h2 => by
          by_cases e : j = i
          · subst e; exact h
          · exact hN.out j hj (by omega)
        have hcd := hpc.out i hlt hN.out
        have i30 : (i : Int) < 30 := by omega
        by_cases h32 : t[i] = 32
        rotate_left
        · have t1 : ((t[i].toNat : Int) != 32) = true := by
            rw [bne_iff_ne]; intro e; exact h32 (UInt8.toNat_inj.1 (by show t[i].toNat = 32; omega))
          have hN2 := Lib.hid (hNn.out h32)
          replace h32 := Lib.hid h32
          clear hcd hNn hpn hpc
          go_wp2
          exact ⟨⟨i + 1, by omega, by omega, by go_num, hB, hr, hN2⟩, by simp only [intOf]; omega⟩
        · have t1 : ((t[i].toNat : Int) != 32) = false := by rw [bne_eq_false_iff_eq, h32]; rfl
          replace hcd := Lib.hid (hcd h32)
          replace h32 := Lib.hid h32
          clear hNn hpn hpc hN
          unfold headT tailT at hcd
          have i1 : (i : Int) + 1 ≤ (t.size : Int) := by omega
          go_wp2_with fail
          have hssz : (t.extract (i + 1) t.size).size ≤ 1000000 := by simp; omega
          have hcsz : (t.extract 0 i).size ≤ 140737488355328 := by simp; omega
          generalize t.extract (i + 1) t.size = s at hcd hssz ⊢
          have hn0 : Hid (Value.int .i64 0 = .int .i64 (dsum (s.data.toList.take 0) : Nat)) := rfl
          go_loopw [6, 7] (fun nx kx wr => wr = wz ∧ ∃ k : Nat, k ≤ s.size ∧ k ≤ 15 ∧ kx = .int .i64 (k : Int) ∧ nx = .int .i64 (dsum (s.data.toList.take k) : Nat)) (fun _ kx _ => 15 - (intOf kx).toNat)
          case atStart => exact ⟨rfl, 0, Nat.zero_le _, by omega, rfl, rfl⟩
          case round =>
            obtain ⟨rfl, k, hk1, hk2, rfl, rfl⟩ := hrel
            obtain ⟨wz, rfl⟩ : ∃ z, z = wr := ⟨_, rfl⟩
            have hdl := dsum_lt s.data.toList k
            have hdp : 10 ^ k ≤ 10 ^ 15 := Nat.pow_le_pow_right (by omega) hk2
            by_cases hkc : k < s.size ∧ k < 15
            · obtain ⟨hks, hk15⟩ := hkc
              have hst := dsum_take hks
              have k0 : (0 : Int) ≤ (k : Int) := by omega
              have k1 : (k : Int) < (s.size : Int) := by omega
              have k15 : (k : Int) < 15 := by omega
              have hdb : dsum (s.data.toList.take k) ≤ 100000000000000 := by have : 10 ^ k ≤ 10 ^ 14 := Nat.pow_le_pow_right (by omega) (by omega); omega
              generalize dsum (s.data.toList.take k) = v at hst hdl hdb ⊢
              obtain ⟨v2, hv2⟩ : ∃ v2, v2 = dsum (s.data.toList.take (k + 1)) := ⟨_, rfl⟩
              rw [← hv2] at hst
              replace hdl := Lib.hid hdl; replace hdp := Lib.hid hdp
              by_cases d1 : 48 ≤ s[k].toNat
              · have u1 : decide ((48 : Int) ≤ (s[k].toNat : Int)) = true := decide_eq_true (by omega)
                by_cases d2 : s[k].toNat ≤ 57
                · have u2 : decide ((s[k].toNat : Int) ≤ 57) = true := decide_eq_true (by omega)
                  rw [if_pos ⟨d1, d2⟩] at hst
                  have h48 : (48 : Int) ≤ (s[k].toNat : Int) := by omega
                  have h57 : (s[k].toNat : Int) ≤ 57 := by omega
                  replace hst := Lib.hid hst
                  replace hv2 := Lib.hid hv2
                  go_wp2
                  exact ⟨⟨(by first | rfl | trivial), k + 1, by omega, by omega, by go_num, by rw [← hv2.out, hst.out]; go_num⟩, by simp only [intOf]; omega⟩
                · have u2 : decide ((s[k].toNat : Int) ≤ 57) = false := decide_eq_false (by omega)
                  rw [if_neg fun h => d2 h.2] at hst
                  replace hst := Lib.hid hst
                  replace hv2 := Lib.hid hv2
                  go_wp2
                  exact ⟨⟨(by first | rfl | trivial), k + 1, by omega, by omega, by go_num, by rw [← hv2.out, hst.out]⟩, by simp only [intOf]; omega⟩
              · have u1 : decide ((48 : Int) ≤ (s[k].toNat : Int)) = false := decide_eq_false (by omega)
                rw [if_neg fun h => d1 h.1] at hst
                replace hst := Lib.hid hst
                replace hv2 := Lib.hid hv2
                go_wp2
                exact ⟨⟨(by first | rfl | trivial), k + 1, by omega, by omega, by go_num, by rw [← hv2.out, hst.out]⟩, by simp only [intOf]; omega⟩
            · have htk : dsum (s.data.toList.take k) = dsum (s.data.toList.take 15) := by
                by_cases c : k = 15
                · rw [c]
                · have hke : k = s.size := by omega
                  rw [List.take_of_length_le (by simp; omega), List.take_of_length_le (by simp; omega)]
              rw [htk] at hdl ⊢
              clear htk
              have hcN : candN s = if signB s = true then - (dsum (s.data.toList.take 15) : Int) else dsum (s.data.toList.take 15) := rfl
              have hdb : dsum (s.data.toList.take 15) ≤ 1000000000000000 := by omega
              generalize dsum (s.data.toList.take 15) = v at hcN hdb hdl ⊢
              replace hdl := Lib.hid hdl; replace hdp := Lib.hid hdp
              have kcond : Hid (¬ (k < s.size ∧ k < 15)) := hkc
              have hsgn : signB s = decide (s.data.toList.head? = some 45) := rfl
              obtain ⟨N, hNN⟩ : ∃ N, N = candN s := ⟨_, rfl⟩
              rw [← hNN] at hcN hcd
              replace hNN := Lib.hid hNN
              have kT := Lib.hid (fun W => RText_any (t.extract 0 i) N W hcsz)
              obtain ⟨tr, htr⟩ : ∃ r, r = textR (t.extract 0 i) N := ⟨_, rfl⟩
              rw [← htr] at hcd; simp only [← htr] at kT
              replace htr := Lib.hid htr
              obtain ⟨tt, te⟩ := tr
              replace kT : Hid (∀ W, Calls Tryz.prog 39 #[.agg #[.string (t.extract 0 i), .int .i64 N]] W fun e w' => e = .returned (.tuple #[.string tt, .int .i64 te]) ∧ Below W.heap.size W w') := kT
              replace hcd : Hid (((rc, ru), re) = if te = 0 ∧ tt = t then ((t.extract 0 i, N), 0) else ((⟨#[]⟩, 0), 5)) := hcd
              have hE := @toList_eq tt t
              have iS : (i : Int) ≤ (t.size : Int) := by omega
              have hB8 : Hid (Below w.heap.size w (wz.alloc (.cells #[.string (t.extract 0 i), .int .i64 N] 35))) := hB.out.alloc hB.out.size _
              have hr8 := Lib.hid (hr.out.alloc (.cells #[.string (t.extract 0 i), .int .i64 N] 35))
              have ha8 : Hid (Bk (wz.alloc (.cells #[.string (t.extract 0 i), .int .i64 N] 35)) wz.heap.size 35 [.string (t.extract 0 i), .int .i64 N]) := Bk.new _ _ _
              have hne : Hid (w.heap.size < wz.heap.size) := hr.out.lt
              have k8 := Lib.hid (kT.out (wz.alloc (.cells #[.string (t.extract 0 i), .int .i64 N] 35)))
              clear hB hr kT
              by_cases hkc1 : k < s.size
              · have k15 : k = 15 := by have := kcond.out; omega
                subst k15
                have kf1 : (15 : Int) < (s.size : Int) := by omega
                by_cases hs0 : 0 < s.size
                · have y0 : (0 : Int) < (s.size : Int) := by omega
                  have hhd : signB s = decide (s[0] = 45) := by
                    rw [hsgn]
                    have e : s.data.toList.head? = some s[0] := by rw [List.head?_eq_getElem?, List.getElem?_eq_getElem (by simpa using hs0)]; rfl
                    rw [e]; simp
                  by_cases h45 : s[0] = 45
                  · have t5 : ((s[0].toNat : Int) == 45) = true := by rw [beq_iff_eq, h45]; rfl
                    rw [hhd, decide_eq_true h45, if_pos rfl] at hcN
                    replace h45 := Lib.hid h45; replace hcN := Lib.hid hcN.symm
                    clear hhd hsgn
                    obtain rfl := hcN.out
                    go_wp2_with fail
                    refine k8.out.mono ?_
                    rintro e w9 ⟨rfl, hb⟩
                    have hB9 := Lib.hid (hB8.out.trans (hb.mono hB8.out.size)); have hr9 := Lib.hid (hr8.out.below hb); have ha9 := Lib.hid (ha8.out.below hb)
                    clear hb hB8 hr8 ha8 k8
                    have a0 := ha9.out.cell (j := 0) rfl; have a1 := ha9.out.cell (j := 1) rfl; have a9 := ha9.out.lt
                    have r0 := hr9.out.cell (j := 0) rfl; have p0 := hr9.out.frozen 0; have r1 := hr9.out.cell (j := 1) rfl; have p1 := hr9.out.frozen 1; have r9 := hr9.out.lt
                    by_cases he : te = 0
                    · have m1 : (te == 0) = true := by rw [beq_iff_eq]; exact he
                      by_cases hx : tt = t
                      · rw [decide_eq_true hx] at hE
                        have hres := hcd.out
                        rw [if_pos ⟨he, hx⟩] at hres
                        replace hres := Lib.hid hres
                        replace he := Lib.hid he; replace hx := Lib.hid hx
                        have hB5 : Hid (Below w.heap.size w ((w9.setCell ⟨w.heap.size, 0, none⟩ (.string (t.extract 0 i))).setCell ⟨w.heap.size, 1, none⟩ (.int .i64 (-(v : Int))))) := ((hB9.out.setCell (p := ⟨w.heap.size, 0, none⟩) (Nat.le_refl _) _).setCell (p := ⟨w.heap.size, 1, none⟩) (Nat.le_refl _) _)
                        have hR5 : Hid (Bk ((w9.setCell ⟨w.heap.size, 0, none⟩ (.string (t.extract 0 i))).setCell ⟨w.heap.size, 1, none⟩ (.int .i64 (-(v : Int)))) w.heap.size 35 [.string (t.extract 0 i), .int .i64 (-(v : Int))]) := (Bk.set hr9.out 0 (.string (t.extract 0 i))).set 1 (.int .i64 (-(v : Int)))
                        go_wp2
                        (try simp only [Exit.inBlock, Exit.then])
                        have s0 := hR5.out.cell (j := 0) rfl; have s1 := hR5.out.cell (j := 1) rfl; have s9 := hR5.out.lt
                        refine bodyPost_ret (v := .tuple #[.agg #[.string (t.extract 0 i), .int .i64 (-(v : Int))], .int .i64 0]) (by simp [results, Tryz.results41, go_sem, s0, s1]) rfl ⟨by have := hres.out; simp only [Prod.mk.injEq] at this; obtain ⟨⟨rfl, rfl⟩, rfl⟩ := this; rfl, hB5.out⟩
                      · rw [decide_eq_false hx] at hE
                        have hres := hcd.out
                        rw [if_neg fun h => hx h.2] at hres
                        replace hres := Lib.hid hres
                        replace he := Lib.hid he; replace hx := Lib.hid hx
                        have hB5 : Hid (Below w.heap.size w ((w9.setCell ⟨w.heap.size, 0, none⟩ (.string ⟨#[]⟩)).setCell ⟨w.heap.size, 1, none⟩ (.int .i64 0))) := ((hB9.out.setCell (p := ⟨w.heap.size, 0, none⟩) (Nat.le_refl _) _).setCell (p := ⟨w.heap.size, 1, none⟩) (Nat.le_refl _) _)
                        have hR5 : Hid (Bk ((w9.setCell ⟨w.heap.size, 0, none⟩ (.string ⟨#[]⟩)).setCell ⟨w.heap.size, 1, none⟩ (.int .i64 0)) w.heap.size 35 [.string ⟨#[]⟩, .int .i64 0]) := (Bk.set hr9.out 0 (.string ⟨#[]⟩)).set 1 (.int .i64 0)
                        go_wp2
                        (try simp only [Exit.inBlock, Exit.then])
                        have s0 := hR5.out.cell (j := 0) rfl; have s1 := hR5.out.cell (j := 1) rfl; have s9 := hR5.out.lt
                        refine bodyPost_ret (v := .tuple #[.agg #[.string ⟨#[]⟩, .int .i64 0], .int .i64 5]) (by simp [results, Tryz.results41, go_sem, s0, s1]) rfl ⟨by have := hres.out; simp only [Prod.mk.injEq] at this; obtain ⟨⟨rfl, rfl⟩, rfl⟩ := this; rfl, hB5.out⟩
                    · have m1 : (te == 0) = false := by rw [beq_eq_false_iff_ne]; exact he
                      have hres := hcd.out
                      rw [if_neg fun h => he h.1] at hres
                      replace hres := Lib.hid hres
                      replace he := Lib.hid he
                      have hB5 : Hid (Below w.heap.size w ((w9.setCell ⟨w.heap.size, 0, none⟩ (.string ⟨#[]⟩)).setCell ⟨w.heap.size, 1, none⟩ (.int .i64 0))) := ((hB9.out.setCell (p := ⟨w.heap.size, 0, none⟩) (Nat.le_refl _) _).setCell (p := ⟨w.heap.size, 1, none⟩) (Nat.le_refl _) _)
                      have hR5 : Hid (Bk ((w9.setCell ⟨w.heap.size, 0, none⟩ (.string ⟨#[]⟩)).setCell ⟨w.heap.size, 1, none⟩ (.int .i64 0)) w.heap.size 35 [.string ⟨#[]⟩, .int .i64 0]) := (Bk.set hr9.out 0 (.string ⟨#[]⟩)).set 1 (.int .i64 0)
                      go_wp2
                      (try simp only [Exit.inBlock, Exit.then])
                      have s0 := hR5.out.cell (j := 0) rfl; have s1 := hR5.out.cell (j := 1) rfl; have s9 := hR5.out.lt
                      refine bodyPost_ret (v := .tuple #[.agg #[.string ⟨#[]⟩, .int .i64 0], .int .i64 5]) (by simp [results, Tryz.results41, go_sem, s0, s1]) rfl ⟨by have := hres.out; simp only [Prod.mk.injEq] at this; obtain ⟨⟨rfl, rfl⟩, rfl⟩ := this; rfl, hB5.out⟩
                  · have t5 : ((s[0].toNat : Int) == 45) = false := by rw [beq_eq_false_iff_ne]; intro e; exact h45 (UInt8.toNat_inj.1 (by show s[0].toNat = 45; omega))
                    rw [hhd, decide_eq_false h45, if_neg (by decide)] at hcN
                    replace h45 := Lib.hid h45
                    clear hhd hsgn
                    obtain rfl := hcN
                    go_wp2_with fail
                    refine k8.out.mono ?_
                    rintro e w9 ⟨rfl, hb⟩
                    have hB9 := Lib.hid (hB8.out.trans (hb.mono hB8.out.size)); have hr9 := Lib.hid (hr8.out.below hb); have ha9 := Lib.hid (ha8.out.below hb)
                    clear hb hB8 hr8 ha8 k8
                    have a0 := ha9.out.cell (j := 0) rfl; have a1 := ha9.out.cell (j := 1) rfl; have a9 := ha9.out.lt
                    have r0 := hr9.out.cell (j := 0) rfl; have p0 := hr9.out.frozen 0; have r1 := hr9.out.cell (j := 1) rfl; have p1 := hr9.out.frozen 1; have r9 := hr9.out.lt
                    by_cases he : te = 0
                    · have m1 : (te == 0) = true := by rw [beq_iff_eq]; exact he
                      by_cases hx : tt = t
                      · rw [decide_eq_true hx] at hE
                        have hres := hcd.out
                        rw [if_pos ⟨he, hx⟩] at hres
                        replace hres := Lib.hid hres
                        replace he := Lib.hid he; replace hx := Lib.hid hx
                        have hB5 : Hid (Below w.heap.size w ((w9.setCell ⟨w.heap.size, 0, none⟩ (.string (t.extract 0 i))).setCell ⟨w.heap.size, 1, none⟩ (.int .i64 (v : Int)))) := ((hB9.out.setCell (p := ⟨w.heap.size, 0, none⟩) (Nat.le_refl _) _).setCell (p := ⟨w.heap.size, 1, none⟩) (Nat.le_refl _) _)
                        have hR5 : Hid (Bk ((w9.setCell ⟨w.heap.size, 0, none⟩ (.string (t.extract 0 i))).setCell ⟨w.heap.size, 1, none⟩ (.int .i64 (v : Int))) w.heap.size 35 [.string (t.extract 0 i), .int .i64 (v : Int)]) := (Bk.set hr9.out 0 (.string (t.extract 0 i))).set 1 (.int .i64 (v : Int))
                        go_wp2
                        (try simp only [Exit.inBlock, Exit.then])
                        have s0 := hR5.out.cell (j := 0) rfl; have s1 := hR5.out.cell (j := 1) rfl; have s9 := hR5.out.lt
                        refine bodyPost_ret (v := .tuple #[.agg #[.string (t.extract 0 i), .int .i64 (v : Int)], .int .i64 0]) (by simp [results, Tryz.results41, go_sem, s0, s1]) rfl ⟨by have := hres.out; simp only [Prod.mk.injEq] at this; obtain ⟨⟨rfl, rfl⟩, rfl⟩ := this; rfl, hB5.out⟩
                      · rw [decide_eq_false hx] at hE
                        have hres := hcd.out
                        rw [if_neg fun h => hx h.2] at hres
                        replace hres := Lib.hid hres
                        replace he := Lib.hid he; replace hx := Lib.hid hx
                        have hB5 : Hid (Below w.heap.size w ((w9.setCell ⟨w.heap.size, 0, none⟩ (.string ⟨#[]⟩)).setCell ⟨w.heap.size, 1, none⟩ (.int .i64 0))) := ((hB9.out.setCell (p := ⟨w.heap.size, 0, none⟩) (Nat.le_refl _) _).setCell (p := ⟨w.heap.size, 1, none⟩) (Nat.le_refl _) _)
                        have hR5 : Hid (Bk ((w9.setCell ⟨w.heap.size, 0, none⟩ (.string ⟨#[]⟩)).setCell ⟨w.heap.size, 1, none⟩ (.int .i64 0)) w.heap.size 35 [.string ⟨#[]⟩, .int .i64 0]) := (Bk.set hr9.out 0 (.string ⟨#[]⟩)).set 1 (.int .i64 0)
                        go_wp2
                        (try simp only [Exit.inBlock, Exit.then])
                        have s0 := hR5.out.cell (j := 0) rfl; have s1 := hR5.out.cell (j := 1) rfl; have s9 := hR5.out.lt
                        refine bodyPost_ret (v := .tuple #[.agg #[.string ⟨#[]⟩, .int .i64 0], .int .i64 5]) (by simp [results, Tryz.results41, go_sem, s0, s1]) rfl ⟨by have := hres.out; simp only [Prod.mk.injEq] at this; obtain ⟨⟨rfl, rfl⟩, rfl⟩ := this; rfl, hB5.out⟩
                    · have m1 : (te == 0) = false := by rw [beq_eq_false_iff_ne]; exact he
                      have hres := hcd.out
                      rw [if_neg fun h => he h.1] at hres
                      replace hres := Lib.hid hres
                      replace he := Lib.hid he
                      have hB5 : Hid (Below w.heap.size w ((w9.setCell ⟨w.heap.size, 0, none⟩ (.string ⟨#[]⟩)).setCell ⟨w.heap.size, 1, none⟩ (.int .i64 0))) := ((hB9.out.setCell (p := ⟨w.heap.size, 0, none⟩) (Nat.le_refl _) _).setCell (p := ⟨w.heap.size, 1, none⟩) (Nat.le_refl _) _)
                      have hR5 : Hid (Bk ((w9.setCell ⟨w.heap.size, 0, none⟩ (.string ⟨#[]⟩)).setCell ⟨w.heap.size, 1, none⟩ (.int .i64 0)) w.heap.size 35 [.string ⟨#[]⟩, .int .i64 0]) := (Bk.set hr9.out 0 (.string ⟨#[]⟩)).set 1 (.int .i64 0)
                      go_wp2
                      (try simp only [Exit.inBlock, Exit.then])
                      have s0 := hR5.out.cell (j := 0) rfl; have s1 := hR5.out.cell (j := 1) rfl; have s9 := hR5.out.lt
                      refine bodyPost_ret (v := .tuple #[.agg #[.string ⟨#[]⟩, .int .i64 0], .int .i64 5]) (by simp [results, Tryz.results41, go_sem, s0, s1]) rfl ⟨by have := hres.out; simp only [Prod.mk.injEq] at this; obtain ⟨⟨rfl, rfl⟩, rfl⟩ := this; rfl, hB5.out⟩
                · exact absurd hs0 (by omega)
              · have hke : k = s.size := by omega
                subst hke
                by_cases hs0 : 0 < s.size
                · have y0 : (0 : Int) < (s.size : Int) := by omega
                  have hhd : signB s = decide (s[0] = 45) := by
                    rw [hsgn]
                    have e : s.data.toList.head? = some s[0] := by rw [List.head?_eq_getElem?, List.getElem?_eq_getElem (by simpa using hs0)]; rfl
                    rw [e]; simp
                  by_cases h45 : s[0] = 45
                  · have t5 : ((s[0].toNat : Int) == 45) = true := by rw [beq_iff_eq, h45]; rfl
                    rw [hhd, decide_eq_true h45, if_pos rfl] at hcN
                    replace h45 := Lib.hid h45; replace hcN := Lib.hid hcN.symm
                    clear hhd hsgn
                    obtain rfl := hcN.out
                    go_wp2_with fail
                    refine k8.out.mono ?_
                    rintro e w9 ⟨rfl, hb⟩
                    have hB9 := Lib.hid (hB8.out.trans (hb.mono hB8.out.size)); have hr9 := Lib.hid (hr8.out.below hb); have ha9 := Lib.hid (ha8.out.below hb)
                    clear hb hB8 hr8 ha8 k8
                    have a0 := ha9.out.cell (j := 0) rfl; have a1 := ha9.out.cell (j := 1) rfl; have a9 := ha9.out.lt
                    have r0 := hr9.out.cell (j := 0) rfl; have p0 := hr9.out.frozen 0; have r1 := hr9.out.cell (j := 1) rfl; have p1 := hr9.out.frozen 1; have r9 := hr9.out.lt
                    by_cases he : te = 0
                    · have m1 : (te == 0) = true := by rw [beq_iff_eq]; exact he
                      by_cases hx : tt = t
                      · rw [decide_eq_true hx] at hE
                        have hres := hcd.out
                        rw [if_pos ⟨he, hx⟩] at hres
                        replace hres := Lib.hid hres
                        replace he := Lib.hid he; replace hx := Lib.hid hx
                        have hB5 : Hid (Below w.heap.size w ((w9.setCell ⟨w.heap.size, 0, none⟩ (.string (t.extract 0 i))).setCell ⟨w.heap.size, 1, none⟩ (.int .i64 (-(v : Int))))) := ((hB9.out.setCell (p := ⟨w.heap.size, 0, none⟩) (Nat.le_refl _) _).setCell (p := ⟨w.heap.size, 1, none⟩) (Nat.le_refl _) _)
                        have hR5 : Hid (Bk ((w9.setCell ⟨w.heap.size, 0, none⟩ (.string (t.extract 0 i))).setCell ⟨w.heap.size, 1, none⟩ (.int .i64 (-(v : Int)))) w.heap.size 35 [.string (t.extract 0 i), .int .i64 (-(v : Int))]) := (Bk.set hr9.out 0 (.string (t.extract 0 i))).set 1 (.int .i64 (-(v : Int)))
                        go_wp2
                        (try simp only [Exit.inBlock, Exit.then])
                        have s0 := hR5.out.cell (j := 0) rfl; have s1 := hR5.out.cell (j := 1) rfl; have s9 := hR5.out.lt
                        refine bodyPost_ret (v := .tuple #[.agg #[.string (t.extract 0 i), .int .i64 (-(v : Int))], .int .i64 0]) (by simp [results, Tryz.results41, go_sem, s0, s1]) rfl ⟨by have := hres.out; simp only [Prod.mk.injEq] at this; obtain ⟨⟨rfl, rfl⟩, rfl⟩ := this; rfl, hB5.out⟩
                      · rw [decide_eq_false hx] at hE
                        have hres := hcd.out
                        rw [if_neg fun h => hx h.2] at hres
                        replace hres := Lib.hid hres
                        replace he := Lib.hid he; replace hx := Lib.hid hx
                        have hB5 : Hid (Below w.heap.size w ((w9.setCell ⟨w.heap.size, 0, none⟩ (.string ⟨#[]⟩)).setCell ⟨w.heap.size, 1, none⟩ (.int .i64 0))) := ((hB9.out.setCell (p := ⟨w.heap.size, 0, none⟩) (Nat.le_refl _) _).setCell (p := ⟨w.heap.size, 1, none⟩) (Nat.le_refl _) _)
                        have hR5 : Hid (Bk ((w9.setCell ⟨w.heap.size, 0, none⟩ (.string ⟨#[]⟩)).setCell ⟨w.heap.size, 1, none⟩ (.int .i64 0)) w.heap.size 35 [.string ⟨#[]⟩, .int .i64 0]) := (Bk.set hr9.out 0 (.string ⟨#[]⟩)).set 1 (.int .i64 0)
                        go_wp2
                        (try simp only [Exit.inBlock, Exit.then])
                        have s0 := hR5.out.cell (j := 0) rfl; have s1 := hR5.out.cell (j := 1) rfl; have s9 := hR5.out.lt
                        refine bodyPost_ret (v := .tuple #[.agg #[.string ⟨#[]⟩, .int .i64 0], .int .i64 5]) (by simp [results, Tryz.results41, go_sem, s0, s1]) rfl ⟨by have := hres.out; simp only [Prod.mk.injEq] at this; obtain ⟨⟨rfl, rfl⟩, rfl⟩ := this; rfl, hB5.out⟩
                    · have m1 : (te == 0) = false := by rw [beq_eq_false_iff_ne]; exact he
                      have hres := hcd.out
                      rw [if_neg fun h => he h.1] at hres
                      replace hres := Lib.hid hres
                      replace he := Lib.hid he
                      have hB5 : Hid (Below w.heap.size w ((w9.setCell ⟨w.heap.size, 0, none⟩ (.string ⟨#[]⟩)).setCell ⟨w.heap.size, 1, none⟩ (.int .i64 0))) := ((hB9.out.setCell (p := ⟨w.heap.size, 0, none⟩) (Nat.le_refl _) _).setCell (p := ⟨w.heap.size, 1, none⟩) (Nat.le_refl _) _)
                      have hR5 : Hid (Bk ((w9.setCell ⟨w.heap.size, 0, none⟩ (.string ⟨#[]⟩)).setCell ⟨w.heap.size, 1, none⟩ (.int .i64 0)) w.heap.size 35 [.string ⟨#[]⟩, .int .i64 0]) := (Bk.set hr9.out 0 (.string ⟨#[]⟩)).set 1 (.int .i64 0)
                      go_wp2
                      (try simp only [Exit.inBlock, Exit.then])
                      have s0 := hR5.out.cell (j := 0) rfl; have s1 := hR5.out.cell (j := 1) rfl; have s9 := hR5.out.lt
                      refine bodyPost_ret (v := .tuple #[.agg #[.string ⟨#[]⟩, .int .i64 0], .int .i64 5]) (by simp [results, Tryz.results41, go_sem, s0, s1]) rfl ⟨by have := hres.out; simp only [Prod.mk.injEq] at this; obtain ⟨⟨rfl, rfl⟩, rfl⟩ := this; rfl, hB5.out⟩
                  · have t5 : ((s[0].toNat : Int) == 45) = false := by rw [beq_eq_false_iff_ne]; intro e; exact h45 (UInt8.toNat_inj.1 (by show s[0].toNat = 45; omega))
                    rw [hhd, decide_eq_false h45, if_neg (by decide)] at hcN
                    replace h45 := Lib.hid h45
                    clear hhd hsgn
                    obtain rfl := hcN
                    go_wp2_with fail
                    refine k8.out.mono ?_
                    rintro e w9 ⟨rfl, hb⟩
                    have hB9 := Lib.hid (hB8.out.trans (hb.mono hB8.out.size)); have hr9 := Lib.hid (hr8.out.below hb); have ha9 := Lib.hid (ha8.out.below hb)
                    clear hb hB8 hr8 ha8 k8
                    have a0 := ha9.out.cell (j := 0) rfl; have a1 := ha9.out.cell (j := 1) rfl; have a9 := ha9.out.lt
                    have r0 := hr9.out.cell (j := 0) rfl; have p0 := hr9.out.frozen 0; have r1 := hr9.out.cell (j := 1) rfl; have p1 := hr9.out.frozen 1; have r9 := hr9.out.lt
                    by_cases he : te = 0
                    · have m1 : (te == 0) = true := by rw [beq_iff_eq]; exact he
                      by_cases hx : tt = t
                      · rw [decide_eq_true hx] at hE
                        have hres := hcd.out
                        rw [if_pos ⟨he, hx⟩] at hres
                        replace hres := Lib.hid hres
                        replace he := Lib.hid he; replace hx := Lib.hid hx
                        have hB5 : Hid (Below w.heap.size w ((w9.setCell ⟨w.heap.size, 0, none⟩ (.string (t.extract 0 i))).setCell ⟨w.heap.size, 1, none⟩ (.int .i64 (v : Int)))) := ((hB9.out.setCell (p := ⟨w.heap.size, 0, none⟩) (Nat.le_refl _) _).setCell (p := ⟨w.heap.size, 1, none⟩) (Nat.le_refl _) _)
                        have hR5 : Hid (Bk ((w9.setCell ⟨w.heap.size, 0, none⟩ (.string (t.extract 0 i))).setCell ⟨w.heap.size, 1, none⟩ (.int .i64 (v : Int))) w.heap.size 35 [.string (t.extract 0 i), .int .i64 (v : Int)]) := (Bk.set hr9.out 0 (.string (t.extract 0 i))).set 1 (.int .i64 (v : Int))
                        go_wp2
                        (try simp only [Exit.inBlock, Exit.then])
                        have s0 := hR5.out.cell (j := 0) rfl; have s1 := hR5.out.cell (j := 1) rfl; have s9 := hR5.out.lt
                        refine bodyPost_ret (v := .tuple #[.agg #[.string (t.extract 0 i), .int .i64 (v : Int)], .int .i64 0]) (by simp [results, Tryz.results41, go_sem, s0, s1]) rfl ⟨by have := hres.out; simp only [Prod.mk.injEq] at this; obtain ⟨⟨rfl, rfl⟩, rfl⟩ := this; rfl, hB5.out⟩
                      · rw [decide_eq_false hx] at hE
                        have hres := hcd.out
                        rw [if_neg fun h => hx h.2] at hres
                        replace hres := Lib.hid hres
                        replace he := Lib.hid he; replace hx := Lib.hid hx
                        have hB5 : Hid (Below w.heap.size w ((w9.setCell ⟨w.heap.size, 0, none⟩ (.string ⟨#[]⟩)).setCell ⟨w.heap.size, 1, none⟩ (.int .i64 0))) := ((hB9.out.setCell (p := ⟨w.heap.size, 0, none⟩) (Nat.le_refl _) _).setCell (p := ⟨w.heap.size, 1, none⟩) (Nat.le_refl _) _)
                        have hR5 : Hid (Bk ((w9.setCell ⟨w.heap.size, 0, none⟩ (.string ⟨#[]⟩)).setCell ⟨w.heap.size, 1, none⟩ (.int .i64 0)) w.heap.size 35 [.string ⟨#[]⟩, .int .i64 0]) := (Bk.set hr9.out 0 (.string ⟨#[]⟩)).set 1 (.int .i64 0)
                        go_wp2
                        (try simp only [Exit.inBlock, Exit.then])
                        have s0 := hR5.out.cell (j := 0) rfl; have s1 := hR5.out.cell (j := 1) rfl; have s9 := hR5.out.lt
                        refine bodyPost_ret (v := .tuple #[.agg #[.string ⟨#[]⟩, .int .i64 0], .int .i64 5]) (by simp [results, Tryz.results41, go_sem, s0, s1]) rfl ⟨by have := hres.out; simp only [Prod.mk.injEq] at this; obtain ⟨⟨rfl, rfl⟩, rfl⟩ := this; rfl, hB5.out⟩
                    · have m1 : (te == 0) = false := by rw [beq_eq_false_iff_ne]; exact he
                      have hres := hcd.out
                      rw [if_neg fun h => he h.1] at hres
                      replace hres := Lib.hid hres
                      replace he := Lib.hid he
                      have hB5 : Hid (Below w.heap.size w ((w9.setCell ⟨w.heap.size, 0, none⟩ (.string ⟨#[]⟩)).setCell ⟨w.heap.size, 1, none⟩ (.int .i64 0))) := ((hB9.out.setCell (p := ⟨w.heap.size, 0, none⟩) (Nat.le_refl _) _).setCell (p := ⟨w.heap.size, 1, none⟩) (Nat.le_refl _) _)
                      have hR5 : Hid (Bk ((w9.setCell ⟨w.heap.size, 0, none⟩ (.string ⟨#[]⟩)).setCell ⟨w.heap.size, 1, none⟩ (.int .i64 0)) w.heap.size 35 [.string ⟨#[]⟩, .int .i64 0]) := (Bk.set hr9.out 0 (.string ⟨#[]⟩)).set 1 (.int .i64 0)
                      go_wp2
                      (try simp only [Exit.inBlock, Exit.then])
                      have s0 := hR5.out.cell (j := 0) rfl; have s1 := hR5.out.cell (j := 1) rfl; have s9 := hR5.out.lt
                      refine bodyPost_ret (v := .tuple #[.agg #[.string ⟨#[]⟩, .int .i64 0], .int .i64 5]) (by simp [results, Tryz.results41, go_sem, s0, s1]) rfl ⟨by have := hres.out; simp only [Prod.mk.injEq] at this; obtain ⟨⟨rfl, rfl⟩, rfl⟩ := this; rfl, hB5.out⟩
                · have hse : s.size = 0 := by omega
                  have hhd : signB s = false := by
                    rw [hsgn]
                    have e : s.data.toList = [] := List.eq_nil_of_length_eq_zero (by simpa using hse)
                    rw [e]; rfl
                  rw [hhd, if_neg (by decide)] at hcN
                  obtain rfl := hcN
                  clear hhd hsgn
                  go_wp2_with fail
                  refine k8.out.mono ?_
                  rintro e w9 ⟨rfl, hb⟩
                  have hB9 := Lib.hid (hB8.out.trans (hb.mono hB8.out.size)); have hr9 := Lib.hid (hr8.out.below hb); have ha9 := Lib.hid (ha8.out.below hb)
                  clear hb hB8 hr8 ha8 k8
                  have a0 := ha9.out.cell (j := 0) rfl; have a1 := ha9.out.cell (j := 1) rfl; have a9 := ha9.out.lt
                  have r0 := hr9.out.cell (j := 0) rfl; have p0 := hr9.out.frozen 0; have r1 := hr9.out.cell (j := 1) rfl; have p1 := hr9.out.frozen 1; have r9 := hr9.out.lt
                  by_cases he : te = 0
                  · have m1 : (te == 0) = true := by rw [beq_iff_eq]; exact he
                    by_cases hx : tt = t
                    · rw [decide_eq_true hx] at hE
                      have hres := hcd.out
                      rw [if_pos ⟨he, hx⟩] at hres
                      replace hres := Lib.hid hres
                      replace he := Lib.hid he; replace hx := Lib.hid hx
                      have hB5 : Hid (Below w.heap.size w ((w9.setCell ⟨w.heap.size, 0, none⟩ (.string (t.extract 0 i))).setCell ⟨w.heap.size, 1, none⟩ (.int .i64 (v : Int)))) := ((hB9.out.setCell (p := ⟨w.heap.size, 0, none⟩) (Nat.le_refl _) _).setCell (p := ⟨w.heap.size, 1, none⟩) (Nat.le_refl _) _)
                      have hR5 : Hid (Bk ((w9.setCell ⟨w.heap.size, 0, none⟩ (.string (t.extract 0 i))).setCell ⟨w.heap.size, 1, none⟩ (.int .i64 (v : Int))) w.heap.size 35 [.string (t.extract 0 i), .int .i64 (v : Int)]) := (Bk.set hr9.out 0 (.string (t.extract 0 i))).set 1 (.int .i64 (v : Int))
                      go_wp2
                      (try simp only [Exit.inBlock, Exit.then])
                      have s0 := hR5.out.cell (j := 0) rfl; have s1 := hR5.out.cell (j := 1) rfl; have s9 := hR5.out.lt
                      refine bodyPost_ret (v := .tuple #[.agg #[.string (t.extract 0 i), .int .i64 (v : Int)], .int .i64 0]) (by simp [results, Tryz.results41, go_sem, s0, s1]) rfl ⟨by have := hres.out; simp only [Prod.mk.injEq] at this; obtain ⟨⟨rfl, rfl⟩, rfl⟩ := this; rfl, hB5.out⟩
                    · rw [decide_eq_false hx] at hE
                      have hres := hcd.out
                      rw [if_neg fun h => hx h.2] at hres
                      replace hres := Lib.hid hres
                      replace he := Lib.hid he; replace hx := Lib.hid hx
                      have hB5 : Hid (Below w.heap.size w ((w9.setCell ⟨w.heap.size, 0, none⟩ (.string ⟨#[]⟩)).setCell ⟨w.heap.size, 1, none⟩ (.int .i64 0))) := ((hB9.out.setCell (p := ⟨w.heap.size, 0, none⟩) (Nat.le_refl _) _).setCell (p := ⟨w.heap.size, 1, none⟩) (Nat.le_refl _) _)
                      have hR5 : Hid (Bk ((w9.setCell ⟨w.heap.size, 0, none⟩ (.string ⟨#[]⟩)).setCell ⟨w.heap.size, 1, none⟩ (.int .i64 0)) w.heap.size 35 [.string ⟨#[]⟩, .int .i64 0]) := (Bk.set hr9.out 0 (.string ⟨#[]⟩)).set 1 (.int .i64 0)
                      go_wp2
                      (try simp only [Exit.inBlock, Exit.then])
                      have s0 := hR5.out.cell (j := 0) rfl; have s1 := hR5.out.cell (j := 1) rfl; have s9 := hR5.out.lt
                      refine bodyPost_ret (v := .tuple #[.agg #[.string ⟨#[]⟩, .int .i64 0], .int .i64 5]) (by simp [results, Tryz.results41, go_sem, s0, s1]) rfl ⟨by have := hres.out; simp only [Prod.mk.injEq] at this; obtain ⟨⟨rfl, rfl⟩, rfl⟩ := this; rfl, hB5.out⟩
                  · have m1 : (te == 0) = false := by rw [beq_eq_false_iff_ne]; exact he
                    have hres := hcd.out
                    rw [if_neg fun h => he h.1] at hres
                    replace hres := Lib.hid hres
                    replace he := Lib.hid he
                    have hB5 : Hid (Below w.heap.size w ((w9.setCell ⟨w.heap.size, 0, none⟩ (.string ⟨#[]⟩)).setCell ⟨w.heap.size, 1, none⟩ (.int .i64 0))) := ((hB9.out.setCell (p := ⟨w.heap.size, 0, none⟩) (Nat.le_refl _) _).setCell (p := ⟨w.heap.size, 1, none⟩) (Nat.le_refl _) _)
                    have hR5 : Hid (Bk ((w9.setCell ⟨w.heap.size, 0, none⟩ (.string ⟨#[]⟩)).setCell ⟨w.heap.size, 1, none⟩ (.int .i64 0)) w.heap.size 35 [.string ⟨#[]⟩, .int .i64 0]) := (Bk.set hr9.out 0 (.string ⟨#[]⟩)).set 1 (.int .i64 0)
                    go_wp2
                    (try simp only [Exit.inBlock, Exit.then])
                    have s0 := hR5.out.cell (j := 0) rfl; have s1 := hR5.out.cell (j := 1) rfl; have s9 := hR5.out.lt
                    refine bodyPost_ret (v := .tuple #[.agg #[.string ⟨#[]⟩, .int .i64 0], .int .i64 5]) (by simp [results, Tryz.results41, go_sem, s0, s1]) rfl ⟨by have := hres.out; simp only [Prod.mk.injEq] at this; obtain ⟨⟨rfl, rfl⟩, rfl⟩ := this; rfl, hB5.out⟩
end Mo
end Go.Proofs.YtpmlhgmmobpilaaGreatDoor

namespace Go.Proofs.YtpmlhgmmobpilaaGreatDoor
open Go.RowKit Go.Shelf
namespace Mo
open Nt Ci
theorem cv_agg' (o : Option Rat) : ∃ g n d, cvV o = .agg #[.bool g, .string n, .string d] := by
  cases o with
  | none => exact ⟨false, ⟨#[]⟩, ⟨#[]⟩, rfl⟩
  | some q => obtain ⟨g, n, d, h⟩ := agg_qv q; exact ⟨g, n, d, h⟩
set_option maxRecDepth 100000 in
set_option maxHeartbeats 16000000 in
theorem law8_match (l : List Rt) (A : Option Addr) (cap : Nat) (base ac : ByteArray) (au : Int) (tcur : ByteArray) (day : Int) (text : ByteArray) (w : World) (hE : REnv w) (hl : InRt w A l) (hll : l.length ≤ 140737488355328) (hz : RtSz l) (hbs : base.size ≤ 140737488355328) (hac : ac.size ≤ 140737488355328) (hto : tcur.size ≤ 140737488355328) (htx : text.size ≤ 140737488355328) :
    Calls Tryz.prog 9 #[.slice A l.length cap, .string base, .agg #[.string ac, .int .i64 au], .string tcur, .int .i64 day, .string text] w fun e w' => e = .returned (.bool true) ∧ Below w.heap.size w w' := by
  have hB1 : Hid (Below w.heap.size w (w.alloc (.cells #[.string ac, .int .i64 au] 35))) := (Below.refl _ w).alloc (Nat.le_refl _) _
  have ha1 : Hid (Bk (w.alloc (.cells #[.string ac, .int .i64 au] 35)) w.heap.size 35 [.string ac, .int .i64 au]) := Bk.new _ _ _
  have kh := Lib.hid (head8_any (w.alloc (.cells #[.string ac, .int .i64 au] 35)) (hE.1.below hB1.out))
  by_cases c0 : 20 < l.length
  · have m0 : decide (20 < (l.length : Int)) = true := decide_eq_true (by omega)
    go_enter Tryz.func9, Tryz.ntmps9
    go_wp2_with fail
    refine kh.out.mono ?_
    rintro e w2 ⟨rfl, hb⟩
    have hB2 := Lib.hid (hB1.out.trans (hb.mono hB1.out.size)); have ha2 := Lib.hid (ha1.out.below hb)
    clear hb hB1 ha1 kh
    have a0 := ha2.out.cell (j := 0) rfl; have a1 := ha2.out.cell (j := 1) rfl; have a9 := ha2.out.lt
    go_wp2
    go_ret
    exact ⟨rfl, hB2.out⟩
  · have m0 : decide (20 < (l.length : Int)) = false := decide_eq_false (by omega)
    by_cases c1 : 60 < base.size
    · have m1 : decide (60 < (base.size : Int)) = true := decide_eq_true (by omega)
      go_enter Tryz.func9, Tryz.ntmps9
      go_wp2_with fail
      refine kh.out.mono ?_
      rintro e w2 ⟨rfl, hb⟩
      have hB2 := Lib.hid (hB1.out.trans (hb.mono hB1.out.size)); have ha2 := Lib.hid (ha1.out.below hb)
      clear hb hB1 ha1 kh
      have a0 := ha2.out.cell (j := 0) rfl; have a1 := ha2.out.cell (j := 1) rfl; have a9 := ha2.out.lt
      go_wp2
      go_ret
      exact ⟨rfl, hB2.out⟩
    · have m1 : decide (60 < (base.size : Int)) = false := decide_eq_false (by omega)
      by_cases c2 : 60 < ac.size
      · have m2 : decide (60 < (ac.size : Int)) = true := decide_eq_true (by omega)
        go_enter Tryz.func9, Tryz.ntmps9
        go_wp2_with fail
        refine kh.out.mono ?_
        rintro e w2 ⟨rfl, hb⟩
        have hB2 := Lib.hid (hB1.out.trans (hb.mono hB1.out.size)); have ha2 := Lib.hid (ha1.out.below hb)
        clear hb hB1 ha1 kh
        have a0 := ha2.out.cell (j := 0) rfl; have a1 := ha2.out.cell (j := 1) rfl; have a9 := ha2.out.lt
        go_wp2
        go_ret
        exact ⟨rfl, hB2.out⟩
      · have m2 : decide (60 < (ac.size : Int)) = false := decide_eq_false (by omega)
        by_cases c3 : 60 < tcur.size
        · have m3 : decide (60 < (tcur.size : Int)) = true := decide_eq_true (by omega)
          go_enter Tryz.func9, Tryz.ntmps9
          go_wp2_with fail
          refine kh.out.mono ?_
          rintro e w2 ⟨rfl, hb⟩
          have hB2 := Lib.hid (hB1.out.trans (hb.mono hB1.out.size)); have ha2 := Lib.hid (ha1.out.below hb)
          clear hb hB1 ha1 kh
          have a0 := ha2.out.cell (j := 0) rfl; have a1 := ha2.out.cell (j := 1) rfl; have a9 := ha2.out.lt
          go_wp2
          go_ret
          exact ⟨rfl, hB2.out⟩
        · have m3 : decide (60 < (tcur.size : Int)) = false := decide_eq_false (by omega)
          by_cases c4 : 60 < text.size
          · have m4 : decide (60 < (text.size : Int)) = true := decide_eq_true (by omega)
            go_enter Tryz.func9, Tryz.ntmps9
            go_wp2_with fail
            refine kh.out.mono ?_
            rintro e w2 ⟨rfl, hb⟩
            have hB2 := Lib.hid (hB1.out.trans (hb.mono hB1.out.size)); have ha2 := Lib.hid (ha1.out.below hb)
            clear hb hB1 ha1 kh
            have a0 := ha2.out.cell (j := 0) rfl; have a1 := ha2.out.cell (j := 1) rfl; have a9 := ha2.out.lt
            go_wp2
            go_ret
            exact ⟨rfl, hB2.out⟩
          · have m4 : decide (60 < (text.size : Int)) = false := decide_eq_false (by omega)
            have kf := Lib.hid (fun W (hW : Below w.heap.size w W) => Find_any l A cap base tcur day W (hl.below hW) hll hbs hto hz)
            have kf2 := Lib.hid (fun W (hW : Below w.heap.size w W) => RFind_any l A cap base tcur day W (hl.below hW) hll hbs hto hz)
            have kc := Lib.hid (fun W (hW : Below w.heap.size w W) => Convert_any l A cap base ac au tcur day W (hE.1.below hW) (hl.below hW) hll hbs hac hto hz)
            have kc2 := Lib.hid (fun W (hW : Below w.heap.size w W) => RConvert_any l A cap base ac au tcur day W (hl.below hW) hll hbs hac hto hz)
            have kt := Lib.hid (fun W (hW : Below w.heap.size w W) => Text_any ac au W (hE.1.below hW) hac)
            have kt2 := Lib.hid (fun W => RText_any ac au W hac)
            have kp := Lib.hid (fun W (hW : Below w.heap.size w W) => MParse_any text W (hE.below hW) (by omega))
            have kp2 := Lib.hid (fun W => RParse_any text W (by omega))
            have kv := Lib.hid (fun W (hW : Below w.heap.size w W) => Mo.Valid_any l A cap base W (hl.below hW) hll hbs hz)
            have kv2 := Lib.hid (fun W (hW : Below w.heap.size w W) => Mo.RValid_any l A cap base W (hl.below hW) hll hbs hz)
            clear hE hl hz
            generalize findR l base tcur day = fr at kf kf2
            obtain ⟨⟨xc, xd, xn, xm⟩, xe⟩ := fr
            generalize convR l base ac au tcur day = cr at kc kc2
            obtain ⟨co, ce⟩ := cr
            generalize textR ac au = tr at kt kt2
            obtain ⟨tt, te⟩ := tr
            generalize parseR text = pr at kp kp2
            obtain ⟨⟨pc, pu⟩, pe⟩ := pr
            generalize validR l base = vb at kv kv2
            obtain ⟨cg, cn, cd, hcv⟩ := cv_agg' co
            simp only [hcv] at kc kc2
            clear hcv
            replace kf : Hid (∀ W, Below w.heap.size w W → Calls Tryz.prog 21 #[.slice A l.length cap, .string base, .string tcur, .int .i64 day] W fun e w' => e = .returned (.tuple #[.agg #[.string xc, .int .i64 xd, .int .i64 xn, .int .i64 xm], .int .i64 xe]) ∧ Below W.heap.size W w') := kf
            replace kf2 : Hid (∀ W, Below w.heap.size w W → Calls Tryz.prog 36 #[.slice A l.length cap, .string base, .string tcur, .int .i64 day] W fun e w' => e = .returned (.tuple #[.agg #[.string xc, .int .i64 xd, .int .i64 xn, .int .i64 xm], .int .i64 xe]) ∧ Below W.heap.size W w') := kf2
            replace kc : Hid (∀ W, Below w.heap.size w W → Calls Tryz.prog 17 #[.slice A l.length cap, .string base, .agg #[.string ac, .int .i64 au], .string tcur, .int .i64 day] W fun e w' => e = .returned (.tuple #[.agg #[.bool cg, .string cn, .string cd], .int .i64 ce]) ∧ Below W.heap.size W w') := kc
            replace kc2 : Hid (∀ W, Below w.heap.size w W → Calls Tryz.prog 37 #[.slice A l.length cap, .string base, .agg #[.string ac, .int .i64 au], .string tcur, .int .i64 day] W fun e w' => e = .returned (.tuple #[.agg #[.bool cg, .string cn, .string cd], .int .i64 ce]) ∧ Below W.heap.size W w') := kc2
            replace kt : Hid (∀ W, Below w.heap.size w W → Calls Tryz.prog 38 #[.agg #[.string ac, .int .i64 au]] W fun e w' => e = .returned (.tuple #[.string tt, .int .i64 te]) ∧ Below W.heap.size W w') := kt
            replace kt2 : Hid (∀ W, Calls Tryz.prog 39 #[.agg #[.string ac, .int .i64 au]] W fun e w' => e = .returned (.tuple #[.string tt, .int .i64 te]) ∧ Below W.heap.size W w') := kt2
            replace kp : Hid (∀ W, Below w.heap.size w W → Calls Tryz.prog 40 #[.string text] W fun e w' => e = .returned (.tuple #[.agg #[.string pc, .int .i64 pu], .int .i64 pe]) ∧ Below W.heap.size W w') := kp
            replace kp2 : Hid (∀ W, Calls Tryz.prog 41 #[.string text] W fun e w' => e = .returned (.tuple #[.agg #[.string pc, .int .i64 pu], .int .i64 pe]) ∧ Below W.heap.size W w') := kp2
            go_enter Tryz.func9, Tryz.ntmps9
            go_wp2_with fail
            refine kh.out.mono ?_
            rintro e w2 ⟨rfl, hb⟩
            have hB2 := Lib.hid (hB1.out.trans (hb.mono hB1.out.size)); have ha2 := Lib.hid (ha1.out.below hb)
            clear hb hB1 ha1 kh
            have a0 := ha2.out.cell (j := 0) rfl; have a1 := ha2.out.cell (j := 1) rfl; have a9 := ha2.out.lt
            have t1 : (xe == xe) = true := beq_self_eq_true xe; have t2 : (ce == ce) = true := beq_self_eq_true ce; have t3 : (te == te) = true := beq_self_eq_true te; have t4 : (pe == pe) = true := beq_self_eq_true pe
            have t5 : (tt.toList == tt.toList) = true := beq_self_eq_true _
            have kk2 := Lib.hid (kf.out w2 hB2.out)
            clear kf
            go_wp2_with fail
            refine kk2.out.mono ?_
            rintro e w3 ⟨rfl, hb⟩
            have hB3 := Lib.hid (hB2.out.trans (hb.mono hB2.out.size)); have ha3 := Lib.hid (ha2.out.below hb)
            clear hb hB2 ha2 kk2 a0 a1 a9
            have hB4 : Hid (Below w.heap.size w (w3.alloc (.cells #[.string xc, .int .i64 xd, .int .i64 xn, .int .i64 xm] 42))) := hB3.out.alloc hB3.out.size _
            have ha4 := Lib.hid (ha3.out.alloc (.cells #[.string xc, .int .i64 xd, .int .i64 xn, .int .i64 xm] 42))
            have hx4 : Hid (Bk (w3.alloc (.cells #[.string xc, .int .i64 xd, .int .i64 xn, .int .i64 xm] 42)) w3.heap.size 42 [.string xc, .int .i64 xd, .int .i64 xn, .int .i64 xm]) := Bk.new _ _ _
            clear hB3 ha3
            have kk4 := Lib.hid (kf2.out (w3.alloc (.cells #[.string xc, .int .i64 xd, .int .i64 xn, .int .i64 xm] 42)) hB4.out)
            clear kf2
            go_wp2_with fail
            refine kk4.out.mono ?_
            rintro e w5 ⟨rfl, hb⟩
            have hB5 := Lib.hid (hB4.out.trans (hb.mono hB4.out.size)); have ha5 := Lib.hid (ha4.out.below hb); have hx5 := Lib.hid (hx4.out.below hb)
            clear hb hB4 ha4 hx4 kk4
            have hB6 : Hid (Below w.heap.size w (w5.alloc (.cells #[.string xc, .int .i64 xd, .int .i64 xn, .int .i64 xm] 42))) := hB5.out.alloc hB5.out.size _
            have ha6 := Lib.hid (ha5.out.alloc (.cells #[.string xc, .int .i64 xd, .int .i64 xn, .int .i64 xm] 42))
            have hx6 := Lib.hid (hx5.out.alloc (.cells #[.string xc, .int .i64 xd, .int .i64 xn, .int .i64 xm] 42))
            have hy6 : Hid (Bk (w5.alloc (.cells #[.string xc, .int .i64 xd, .int .i64 xn, .int .i64 xm] 42)) w5.heap.size 42 [.string xc, .int .i64 xd, .int .i64 xn, .int .i64 xm]) := Bk.new _ _ _
            clear hB5 ha5 hx5
            have kk6 := Lib.hid (kc.out (w5.alloc (.cells #[.string xc, .int .i64 xd, .int .i64 xn, .int .i64 xm] 42)) hB6.out)
            have a0 := ha6.out.cell (j := 0) rfl; have a1 := ha6.out.cell (j := 1) rfl; have a9 := ha6.out.lt
            clear kc
            go_wp2_with fail
            refine kk6.out.mono ?_
            rintro e w7 ⟨rfl, hb⟩
            have hB7 := Lib.hid (hB6.out.trans (hb.mono hB6.out.size)); have ha7 := Lib.hid (ha6.out.below hb); have hx7 := Lib.hid (hx6.out.below hb); have hy7 := Lib.hid (hy6.out.below hb)
            clear hb hB6 ha6 hx6 hy6 kk6 a0 a1 a9
            have hB8 : Hid (Below w.heap.size w (w7.alloc (.cells #[.bool cg, .string cn, .string cd] 23))) := hB7.out.alloc hB7.out.size _
            have ha8 := Lib.hid (ha7.out.alloc (.cells #[.bool cg, .string cn, .string cd] 23))
            have hx8 := Lib.hid (hx7.out.alloc (.cells #[.bool cg, .string cn, .string cd] 23))
            have hy8 := Lib.hid (hy7.out.alloc (.cells #[.bool cg, .string cn, .string cd] 23))
            have hp8 : Hid (Bk (w7.alloc (.cells #[.bool cg, .string cn, .string cd] 23)) w7.heap.size 23 [.bool cg, .string cn, .string cd]) := Bk.new _ _ _
            clear hB7 ha7 hx7 hy7
            have kk8 := Lib.hid (kc2.out (w7.alloc (.cells #[.bool cg, .string cn, .string cd] 23)) hB8.out)
            have a0 := ha8.out.cell (j := 0) rfl; have a1 := ha8.out.cell (j := 1) rfl; have a9 := ha8.out.lt
            clear kc2
            go_wp2_with fail
            refine kk8.out.mono ?_
            rintro e w9 ⟨rfl, hb⟩
            have hB9 := Lib.hid (hB8.out.trans (hb.mono hB8.out.size)); have ha9 := Lib.hid (ha8.out.below hb); have hx9 := Lib.hid (hx8.out.below hb); have hy9 := Lib.hid (hy8.out.below hb); have hp9 := Lib.hid (hp8.out.below hb)
            clear hb hB8 ha8 hx8 hy8 hp8 kk8 a0 a1 a9
            have hB10 : Hid (Below w.heap.size w (w9.alloc (.cells #[.bool cg, .string cn, .string cd] 23))) := hB9.out.alloc hB9.out.size _
            have ha10 := Lib.hid (ha9.out.alloc (.cells #[.bool cg, .string cn, .string cd] 23))
            have hx10 := Lib.hid (hx9.out.alloc (.cells #[.bool cg, .string cn, .string cd] 23))
            have hy10 := Lib.hid (hy9.out.alloc (.cells #[.bool cg, .string cn, .string cd] 23))
            have hp10 := Lib.hid (hp9.out.alloc (.cells #[.bool cg, .string cn, .string cd] 23))
            have hq10 : Hid (Bk (w9.alloc (.cells #[.bool cg, .string cn, .string cd] 23)) w9.heap.size 23 [.bool cg, .string cn, .string cd]) := Bk.new _ _ _
            clear hB9 ha9 hx9 hy9 hp9
            have kk10 := Lib.hid (kt.out (w9.alloc (.cells #[.bool cg, .string cn, .string cd] 23)) hB10.out)
            have a0 := ha10.out.cell (j := 0) rfl; have a1 := ha10.out.cell (j := 1) rfl; have a9 := ha10.out.lt
            clear kt
            go_wp2_with fail
            refine kk10.out.mono ?_
            rintro e w11 ⟨rfl, hb⟩
            have hB11 := Lib.hid (hB10.out.trans (hb.mono hB10.out.size)); have ha11 := Lib.hid (ha10.out.below hb); have hx11 := Lib.hid (hx10.out.below hb); have hy11 := Lib.hid (hy10.out.below hb); have hp11 := Lib.hid (hp10.out.below hb); have hq11 := Lib.hid (hq10.out.below hb)
            clear hb hB10 ha10 hx10 hy10 hp10 hq10 kk10 a0 a1 a9
            have kk11 := Lib.hid (kt2.out w11)
            have a0 := ha11.out.cell (j := 0) rfl; have a1 := ha11.out.cell (j := 1) rfl; have a9 := ha11.out.lt
            clear kt2
            go_wp2_with fail
            refine kk11.out.mono ?_
            rintro e w12 ⟨rfl, hb⟩
            have hB12 := Lib.hid (hB11.out.trans (hb.mono hB11.out.size)); have ha12 := Lib.hid (ha11.out.below hb); have hx12 := Lib.hid (hx11.out.below hb); have hy12 := Lib.hid (hy11.out.below hb); have hp12 := Lib.hid (hp11.out.below hb); have hq12 := Lib.hid (hq11.out.below hb)
            clear hb hB11 ha11 hx11 hy11 hp11 hq11 kk11 a0 a1 a9
            have kk12 := Lib.hid (kp.out w12 hB12.out)
            clear kp
            go_wp2_with fail
            refine kk12.out.mono ?_
            rintro e w13 ⟨rfl, hb⟩
            have hB13 := Lib.hid (hB12.out.trans (hb.mono hB12.out.size)); have ha13 := Lib.hid (ha12.out.below hb); have hx13 := Lib.hid (hx12.out.below hb); have hy13 := Lib.hid (hy12.out.below hb); have hp13 := Lib.hid (hp12.out.below hb); have hq13 := Lib.hid (hq12.out.below hb)
            clear hb hB12 ha12 hx12 hy12 hp12 hq12 kk12
            have hB14 : Hid (Below w.heap.size w (w13.alloc (.cells #[.string pc, .int .i64 pu] 35))) := hB13.out.alloc hB13.out.size _
            have ha14 := Lib.hid (ha13.out.alloc (.cells #[.string pc, .int .i64 pu] 35))
            have hx14 := Lib.hid (hx13.out.alloc (.cells #[.string pc, .int .i64 pu] 35))
            have hy14 := Lib.hid (hy13.out.alloc (.cells #[.string pc, .int .i64 pu] 35))
            have hp14 := Lib.hid (hp13.out.alloc (.cells #[.string pc, .int .i64 pu] 35))
            have hq14 := Lib.hid (hq13.out.alloc (.cells #[.string pc, .int .i64 pu] 35))
            have hb14 : Hid (Bk (w13.alloc (.cells #[.string pc, .int .i64 pu] 35)) w13.heap.size 35 [.string pc, .int .i64 pu]) := Bk.new _ _ _
            clear hB13 ha13 hx13 hy13 hp13 hq13
            have kk14 := Lib.hid (kp2.out (w13.alloc (.cells #[.string pc, .int .i64 pu] 35)))
            clear kp2
            go_wp2_with fail
            refine kk14.out.mono ?_
            rintro e w15 ⟨rfl, hb⟩
            have hB15 := Lib.hid (hB14.out.trans (hb.mono hB14.out.size)); have ha15 := Lib.hid (ha14.out.below hb); have hx15 := Lib.hid (hx14.out.below hb); have hy15 := Lib.hid (hy14.out.below hb); have hp15 := Lib.hid (hp14.out.below hb); have hq15 := Lib.hid (hq14.out.below hb); have hb15 := Lib.hid (hb14.out.below hb)
            clear hb hB14 ha14 hx14 hy14 hp14 hq14 hb14 kk14
            have hB16 : Hid (Below w.heap.size w (w15.alloc (.cells #[.string pc, .int .i64 pu] 35))) := hB15.out.alloc hB15.out.size _
            have ha16 := Lib.hid (ha15.out.alloc (.cells #[.string pc, .int .i64 pu] 35))
            have hx16 := Lib.hid (hx15.out.alloc (.cells #[.string pc, .int .i64 pu] 35))
            have hy16 := Lib.hid (hy15.out.alloc (.cells #[.string pc, .int .i64 pu] 35))
            have hp16 := Lib.hid (hp15.out.alloc (.cells #[.string pc, .int .i64 pu] 35))
            have hq16 := Lib.hid (hq15.out.alloc (.cells #[.string pc, .int .i64 pu] 35))
            have hb16 := Lib.hid (hb15.out.alloc (.cells #[.string pc, .int .i64 pu] 35))
            have hc16 : Hid (Bk (w15.alloc (.cells #[.string pc, .int .i64 pu] 35)) w15.heap.size 35 [.string pc, .int .i64 pu]) := Bk.new _ _ _
            clear hB15 ha15 hx15 hy15 hp15 hq15 hb15
            have kk16 := Lib.hid (kv.out (w15.alloc (.cells #[.string pc, .int .i64 pu] 35)) hB16.out)
            clear kv
            go_wp2_with fail
            refine kk16.out.mono ?_
            rintro e w17 ⟨rfl, hb⟩
            have hB17 := Lib.hid (hB16.out.trans (hb.mono hB16.out.size)); have ha17 := Lib.hid (ha16.out.below hb); have hx17 := Lib.hid (hx16.out.below hb); have hy17 := Lib.hid (hy16.out.below hb); have hp17 := Lib.hid (hp16.out.below hb); have hq17 := Lib.hid (hq16.out.below hb); have hb17 := Lib.hid (hb16.out.below hb); have hc17 := Lib.hid (hc16.out.below hb)
            clear hb hB16 ha16 hx16 hy16 hp16 hq16 hb16 hc16 kk16
            have kk17 := Lib.hid (kv2.out w17 hB17.out)
            clear kv2
            go_wp2_with fail
            refine kk17.out.mono ?_
            rintro e w18 ⟨rfl, hb⟩
            have hB18 := Lib.hid (hB17.out.trans (hb.mono hB17.out.size)); have ha18 := Lib.hid (ha17.out.below hb); have hx18 := Lib.hid (hx17.out.below hb); have hy18 := Lib.hid (hy17.out.below hb); have hp18 := Lib.hid (hp17.out.below hb); have hq18 := Lib.hid (hq17.out.below hb); have hb18 := Lib.hid (hb17.out.below hb); have hc18 := Lib.hid (hc17.out.below hb)
            clear hb hB17 ha17 hx17 hy17 hp17 hq17 hb17 hc17 kk17
            have x0 := hx18.out.cell (j := 0) rfl; have x1 := hx18.out.cell (j := 1) rfl; have x2 := hx18.out.cell (j := 2) rfl; have x3 := hx18.out.cell (j := 3) rfl; have x9 := hx18.out.lt
            have y0 := hy18.out.cell (j := 0) rfl; have y1 := hy18.out.cell (j := 1) rfl; have y2 := hy18.out.cell (j := 2) rfl; have y3 := hy18.out.cell (j := 3) rfl; have y9 := hy18.out.lt
            have p0 := hp18.out.cell (j := 0) rfl; have p1 := hp18.out.cell (j := 1) rfl; have p2 := hp18.out.cell (j := 2) rfl; have p9 := hp18.out.lt
            have q0 := hq18.out.cell (j := 0) rfl; have q1 := hq18.out.cell (j := 1) rfl; have q2 := hq18.out.cell (j := 2) rfl; have q9 := hq18.out.lt
            have b0 := hb18.out.cell (j := 0) rfl; have b1 := hb18.out.cell (j := 1) rfl; have b9 := hb18.out.lt
            have c0 := hc18.out.cell (j := 0) rfl; have c1 := hc18.out.cell (j := 1) rfl; have c9 := hc18.out.lt
            have t6 : (vb == vb) = true := beq_self_eq_true vb
            go_wp2
            go_ret
            exact ⟨rfl, hB18.out⟩
end Mo
end Go.Proofs.YtpmlhgmmobpilaaGreatDoor
