/- ratio's Of and Make. -/
import Derived.Test.YthggedpgcchneaaGreatDoorRatOps
namespace Go.Proofs.YthggedpgcchneaaGreatDoor
open Go.RowKit Go.Shelf
namespace Nt

theorem trim_minus (n : Int) : Lib.trimPrefix (Lib.itoa n) [45] = Lib.decDigits n.natAbs := by
  unfold Lib.itoa
  by_cases h : n < 0
  · rw [if_pos h]
    simp [Lib.trimPrefix, Lib.hasPrefix]
  · rw [if_neg h]
    have e : n.toNat = n.natAbs := by omega
    rw [e]
    unfold Lib.trimPrefix Lib.hasPrefix
    rw [if_neg]
    intro hp
    have hd := decDigits_dig n.natAbs
    cases hl : Lib.decDigits n.natAbs with
    | nil => exact decDigits_ne _ hl
    | cons c r =>
      rw [hl] at hp hd
      simp at hp
      have := (hd c (by simp)).1
      rw [← hp] at this
      revert this
      decide

theorem one_below (w : World) (o : Obj) : Below w.heap.size w (w.alloc o) := (Below.refl _ w).alloc (Nat.le_refl _) _
theorem int_abs_lim {n : Int} (h0 : -9223372036854775808 ≤ n) (h1 : n ≤ 9223372036854775807) : n.natAbs < L1 := by
  have h : 10 ^ 20 ≤ L1 := Nat.pow_le_pow_right (by omega) (by rw [mx1_eq]; omega)
  omega

/-- The rational number m / n. -/
def ofQ (m n : Int) : Rat := mkRat (sg (!(decide (m < 0) == decide (n < 0))) m.natAbs) n.natAbs
end Nt
end Go.Proofs.YthggedpgcchneaaGreatDoor
