/- ratio's Of and Make. -/
import Derived.Test.YtmekiidknjjfcaaGreatDoorRatOps
namespace Go.Proofs.YtmekiidknjjfcaaGreatDoor
open Go.RowKit Go.Shelf
namespace Nt

theorem trim_minus (n : Int) : Lib.trimPrefix (Lib.itoa n) [45] = Lib.decDigits n.natAbs := by
  unfold Lib.itoa
  by_cases h : n < 0
  · rw [if_pos h]
    simp [Lib.trimPrefix, Lib.hasPrefix]
  · rw [if_neg h]
    have e : n.toNat = n.natAbs := by omega
    rw [e]
    unfold Lib.trimPrefix Lib.hasPrefix
    rw [if_neg]
    intro hp
    have hd := decDigits_dig n.natAbs
    cases hl : Lib.decDigits n.natAbs with
    | nil => exact decDigits_ne _ hl
    | cons c r =>
      rw [hl] at hp hd
      simp at hp
      have := (hd c (by simp)).1
      rw [← hp] at this
      revert this
      decide

/-- The size of an int as a text. -/
theorem size_any (n : Int) (h0 : -9223372036854775808 ≤ n) (h1 : n ≤ 9223372036854775807) (w : World) (hE : Env w) :
    Calls Tryz.prog 59 #[.int .i64 n] w fun e w' => e = .returned (.string (T (some n.natAbs))) ∧ Below w.heap.size w w' := by
  have hi := itoa_any n h0 h1 w hE.tab
  have ht := fun W => Tryz.strings_TrimPrefix ⟨(Lib.itoa n).toArray⟩ ⟨#[45]⟩ W
  have e : (⟨(Lib.trimPrefix (⟨(Lib.itoa n).toArray⟩ : ByteArray).data.toList (⟨#[45]⟩ : ByteArray).data.toList).toArray⟩ : ByteArray) = T (some n.natAbs) := by
    show (⟨(Lib.trimPrefix (Lib.itoa n) [45]).toArray⟩ : ByteArray) = _
    rw [trim_minus]
    rfl
  rw [e] at ht
  clear e
  go_enter Tryz.func59, Tryz.ntmps59
  go_wp2_with fail
  refine hi.mono ?_
  rintro e w1 ⟨rfl, hb1⟩
  replace hb1 := Lib.hid hb1
  go_wp2_with fail
  refine (ht _).mono ?_
  rintro e w2 ⟨rfl, hw2⟩
  subst hw2
  go_wp2
  go_ret
  exact ⟨rfl, hb1.out⟩

theorem one_below (w : World) (o : Obj) : Below w.heap.size w (w.alloc o) := (Below.refl _ w).alloc (Nat.le_refl _) _
theorem int_abs_lim {n : Int} (h0 : -9223372036854775808 ≤ n) (h1 : n ≤ 9223372036854775807) : n.natAbs < L1 := by
  have h : 10 ^ 20 ≤ L1 := Nat.pow_le_pow_right (by omega) (by rw [mx1_eq]; omega)
  omega

theorem Of_zero (m : Int) (w : World) : Calls Tryz.prog 44 #[.int .i64 m, .int .i64 0] w fun e w' => e = .returned (.tuple #[zv, .int .i64 15]) ∧ Below w.heap.size w w' := by
  go_enter Tryz.func44, Tryz.ntmps44
  go_wp2
  refine bodyPost_ret (v := .tuple #[.agg #[.bool false, .string ⟨#[]⟩, .string ⟨#[]⟩], .int .i64 15]) (by simp [results, Tryz.results44, go_sem]) rfl ⟨rfl, ?_⟩
  repeat refine Below.setCell ?_ (by simp only []; omega) _
  exact one_below _ _

/-- The quotient of two ints, as a row of fields. -/
theorem Of_w (m n : Int) (hm0 : -9223372036854775808 ≤ m) (hm1 : m ≤ 9223372036854775807) (hn0 : -9223372036854775808 ≤ n) (hn1 : n ≤ 9223372036854775807) (h0 : n ≠ 0) (r : Bool) (x y : ByteArray) (w : World) (hE : Env w)
    (hl : ∀ W, Env W → Calls Tryz.prog 62 #[.bool (!(decide (m < 0) == decide (n < 0))), .string (T (some m.natAbs)), .string (T (some n.natAbs))] W fun e w' => e = .returned (.tuple #[.agg #[.bool r, .string x, .string y], .int .i64 0]) ∧ Below W.heap.size W w') :
    Calls Tryz.prog 44 #[.int .i64 m, .int .i64 n] w fun e w' => e = .returned (.tuple #[.agg #[.bool r, .string x, .string y], .int .i64 0]) ∧ Below w.heap.size w w' := by
  have hz : (n == 0) = false := by rw [beq_eq_false_iff_ne]; exact h0
  have c1 := fun W (h : Env W) => size_any m hm0 hm1 W h
  have c2 := fun W (h : Env W) => size_any n hn0 hn1 W h
  replace hE := Lib.hid hE
  replace hl := Lib.hid hl
  replace h0 := Lib.hid h0
  clear hm0 hm1 hn0 hn1
  go_enter Tryz.func44, Tryz.ntmps44
  go_wp2_with fail
  refine (c1 _ (hE.out.below (one_below _ _))).mono ?_
  rintro e w1 ⟨rfl, hb1⟩
  have q1 := (B3.new w false ⟨#[]⟩ ⟨#[]⟩).below hb1
  have hB1 := Lib.hid ((one_below w (.cells #[.bool false, .string ⟨#[]⟩, .string ⟨#[]⟩] 49)).trans (hb1.mono (by simp)))
  clear hb1
  replace q1 := Lib.hid q1
  go_wp2_with fail
  refine (c2 _ (hE.out.below hB1.out)).mono ?_
  rintro e w2 ⟨rfl, hb2⟩
  have q2 := q1.out.below hb2
  have hB2 := Lib.hid (hB1.out.trans (hb2.mono hB1.out.size))
  clear hb2
  replace q2 := Lib.hid q2
  go_wp2_with fail
  refine (hl.out _ (hE.out.below hB2.out)).mono ?_
  rintro e w3 ⟨rfl, hb3⟩
  have q3 := q2.out.below hb3
  have hB3 := Lib.hid (hB2.out.trans (hb3.mono hB2.out.size))
  obtain ⟨d1, d2, d3, d4, d5, d6⟩ := q3.facts
  have hz3 := q3.lt
  clear hb3
  replace q3 := Lib.hid q3
  go_wp2
  refine bodyPost_ret (v := .tuple #[.agg #[.bool r, .string x, .string y], .int .i64 0]) (by simp [results, Tryz.results44, go_sem, d1, d2, d3]) rfl ⟨rfl, ?_⟩
  repeat refine Below.setCell ?_ (by simp only []; omega) _
  exact hB3.out

/-- The rational number m / n. -/
def ofQ (m n : Int) : Rat := mkRat (sg (!(decide (m < 0) == decide (n < 0))) m.natAbs) n.natAbs
theorem RatOf_any (m n : Int) (hm0 : -9223372036854775808 ≤ m) (hm1 : m ≤ 9223372036854775807) (hn0 : -9223372036854775808 ≤ n) (hn1 : n ≤ 9223372036854775807) (h0 : n ≠ 0) (w : World) (hE : Env w) :
    Calls Tryz.prog 44 #[.int .i64 m, .int .i64 n] w fun e w' => e = .returned (.tuple #[qv (ofQ m n), .int .i64 0]) ∧ Below w.heap.size w w' :=
  Of_w m n hm0 hm1 hn0 hn1 h0 _ _ _ w hE fun W hW => lowest_any _ m.natAbs n.natAbs W hW (L1_lim (int_abs_lim hm0 hm1)) (L1_lim (int_abs_lim hn0 hn1)) (by omega)

end Nt
end Go.Proofs.YtmekiidknjjfcaaGreatDoor
