/- RatioOrder: the plain law. -/
import Derived.Test.YtjahnkeafaebdaaGreatDoorRatTri
namespace Go.Proofs.YtjahnkeafaebdaaGreatDoor
open Go.RowKit Go.Shelf
namespace Nt

theorem qv_same {p q : Rat} (h1 : p.num < 0 ↔ q.num < 0) (h2 : (T (some p.num.natAbs)).toList = (T (some q.num.natAbs)).toList) (h3 : (T (some p.den)).toList = (T (some q.den)).toList) : p = q := by
  rw [Lib.toList_data, Lib.toList_data] at h2 h3
  apply qv_inj
  unfold qv
  rw [decide_eq_decide.2 h1, show T (some p.num.natAbs) = T (some q.num.natAbs) from congrArg ByteArray.mk (Array.toList_inj.1 h2), show T (some p.den) = T (some q.den) from congrArg ByteArray.mk (Array.toList_inj.1 h3)]
theorem same_g {p q : Rat} (h : p = q) : p.num < 0 ↔ q.num < 0 := by rw [h]
theorem same_n {p q : Rat} (h : p = q) : (T (some p.num.natAbs)).toList = (T (some q.num.natAbs)).toList := by rw [h]
theorem same_d {p q : Rat} (h : p = q) : (T (some p.den)).toList = (T (some q.den)).toList := by rw [h]

theorem rat_tri (a b : Rat) : a < b ∨ a = b ∨ b < a := by
  by_cases h1 : a < b
  · exact .inl h1
  · by_cases h2 : b < a
    · exact .inr (.inr h2)
    · exact .inr (.inl (Rat.le_antisymm (Rat.not_lt.1 h2) (Rat.not_lt.1 h1)))
theorem cmpQ_lt {a b : Rat} (h : a < b) : cmpQ a b = -1 := if_pos h
theorem cmpQ_eq (a : Rat) : cmpQ a a = 0 := by unfold cmpQ; rw [if_neg Rat.lt_irrefl, if_pos rfl]
theorem cmpQ_gt {a b : Rat} (h : b < a) : cmpQ a b = 1 := by
  unfold cmpQ
  rw [if_neg (Rat.not_lt.2 (Rat.le_of_lt h)), if_neg (fun e => Rat.lt_irrefl (e ▸ h))]
theorem cmpQ_le {a b : Rat} (h : cmpQ a b ≤ 0) : a ≤ b := by
  rcases rat_tri a b with h1 | h1 | h1
  · exact Rat.le_of_lt h1
  · exact h1 ▸ Rat.le_refl
  · rw [cmpQ_gt h1] at h; omega
theorem cmpQ_of_le {a b : Rat} (h : a ≤ b) : decide (0 < cmpQ a b) = false := by
  refine decide_eq_false fun h1 => ?_
  by_cases h2 : a < b
  · rw [cmpQ_lt h2] at h1; omega
  · have e : a = b := Rat.le_antisymm h (Rat.not_lt.1 h2)
    rw [e, cmpQ_eq] at h1; omega
theorem cmpQ_add (a b c : Rat) : cmpQ (a + c) (b + c) = cmpQ a b := by
  rcases rat_tri a b with h1 | h1 | h1
  · rw [cmpQ_lt h1, cmpQ_lt (Rat.add_lt_add_right.2 h1)]
  · rw [h1, cmpQ_eq, cmpQ_eq]
  · rw [cmpQ_gt h1, cmpQ_gt (Rat.add_lt_add_right.2 h1)]
theorem cmpQ_mul (a b c : Rat) (h : 0 < c) : cmpQ (a * c) (b * c) = cmpQ a b := by
  rcases rat_tri a b with h1 | h1 | h1
  · rw [cmpQ_lt h1, cmpQ_lt (Rat.mul_lt_mul_of_pos_right h1 h)]
  · rw [h1, cmpQ_eq, cmpQ_eq]
  · rw [cmpQ_gt h1, cmpQ_gt (Rat.mul_lt_mul_of_pos_right h1 h)]

end Nt
end Go.Proofs.YtjahnkeafaebdaaGreatDoor
