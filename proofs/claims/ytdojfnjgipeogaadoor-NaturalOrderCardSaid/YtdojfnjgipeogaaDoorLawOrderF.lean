/- NaturalOrder: plain facts. -/
import Derived.Test.YtdojfnjgipeogaaDoorNatO2
namespace Go.Proofs.YtdojfnjgipeogaaDoor
open Go.RowKit Go.Shelf
namespace Nt

theorem order_errs {x y z : Option Nat} (hx : x.isSome = true) (hy : y.isSome = true) (hz : z.isSome = true) : cmpX x y = 0 ∧ cmpX y x = 0 ∧ cmpX y z = 0 ∧ cmpX x z = 0 := by
  obtain ⟨a, rfl⟩ := Option.isSome_iff_exists.1 hx
  obtain ⟨b, rfl⟩ := Option.isSome_iff_exists.1 hy
  obtain ⟨c, rfl⟩ := Option.isSome_iff_exists.1 hz
  exact ⟨rfl, rfl, rfl, rfl⟩

theorem cmpN_add (a b c : Nat) : cmpN (a + c) (b + c) = cmpN a b := by simp [cmpN]
theorem cmpN_mul (a b c : Nat) (h : c ≠ 0) : cmpN (a * c) (b * c) = cmpN a b := by
  have h := Nat.pos_of_ne_zero h
  simp [cmpN, Nat.mul_lt_mul_right h]

theorem order_sum {x y z : Option Nat} (okx : Ok x) (oky : Ok y) (okz : Ok z) (hx : x.isSome = true) (hy : y.isSome = true) (hz : z.isSome = true) :
    sumE x z = 2 ∨ (sumE x z = 0 ∧ sumE y z = 2) ∨ (sumE x z = 0 ∧ sumE y z = 0 ∧ cmpO (sumO x z) (sumO y z) = cmpO x y) := by
  obtain ⟨a, rfl⟩ := Option.isSome_iff_exists.1 hx
  obtain ⟨b, rfl⟩ := Option.isSome_iff_exists.1 hy
  obtain ⟨c, rfl⟩ := Option.isSome_iff_exists.1 hz
  by_cases h1 : a + c < Lim
  · have e1 : sumE (some a) (some c) = 0 := if_pos h1
    by_cases h2 : b + c < Lim
    · have e2 : sumE (some b) (some c) = 0 := if_pos h2
      exact .inr (.inr ⟨e1, e2, by rw [sum_of e1, sum_of e2]; exact cmpN_add a b c⟩)
    · exact .inr (.inl ⟨e1, if_neg h2⟩)
  · exact .inl (if_neg h1)
theorem order_mul {x y z : Option Nat} (okx : Ok x) (oky : Ok y) (okz : Ok z) (hx : x.isSome = true) (hy : y.isSome = true) (hz : z.isSome = true) :
    ((T z).toList == [48]) = true ∨ (((T z).toList == [48]) = false ∧ mulE x z = 2) ∨ (((T z).toList == [48]) = false ∧ mulE x z = 0 ∧ mulE y z = 2) ∨ (((T z).toList == [48]) = false ∧ mulE x z = 0 ∧ mulE y z = 0 ∧ cmpO (mulO x z) (mulO y z) = cmpO x y) := by
  obtain ⟨a, rfl⟩ := Option.isSome_iff_exists.1 hx
  obtain ⟨b, rfl⟩ := Option.isSome_iff_exists.1 hy
  obtain ⟨c, rfl⟩ := Option.isSome_iff_exists.1 hz
  by_cases h0 : c = 0
  · exact .inl (by rw [beq_iff_eq, toL_zero_iff okz]; exact h0)
  · have hb : ((T (some c)).toList == [48]) = false := by rw [beq_eq_false_iff_ne, ne_eq, toL_zero_iff okz]; exact h0
    by_cases h1 : a * c < Lim
    · have e1 : mulE (some a) (some c) = 0 := if_pos h1
      by_cases h2 : b * c < Lim
      · have e2 : mulE (some b) (some c) = 0 := if_pos h2
        exact .inr (.inr (.inr ⟨hb, e1, e2, by rw [mul_of e1, mul_of e2]; exact cmpN_mul a b c h0⟩))
      · exact .inr (.inr (.inl ⟨hb, e1, if_neg h2⟩))
    · exact .inr (.inl ⟨hb, if_neg h1⟩)



end Nt
end Go.Proofs.YtdojfnjgipeogaaDoor

