/- The walk of ratio's sum. -/
import Derived.Test.YthggedpgcchneaaGreatDoorRatSum
namespace Go.Proofs.YthggedpgcchneaaGreatDoor
open Go.RowKit Go.Shelf
namespace Nt

theorem blw_drewN {B : Nat} {a w : World} (h : Below B a w) (n : Nat) : Below B a (w.drewN n) := ⟨h.os, h.tape, h.output, h.size, h.block⟩

/-- The blocks that sum lays ahead of its products. -/
def SumBoxes (W : World) (B : Nat) (g1 g2 : Bool) (a b c d : Nat) : Prop :=
  B3 W B g1 (T (some a)) (T (some b)) ∧ B3 W (B + 1) g2 (T (some c)) (T (some d)) ∧ B3 W (B + 1 + 1) false ⟨#[]⟩ ⟨#[]⟩
abbrev sumW (w : World) (g1 g2 : Bool) (a b c d : Nat) : World :=
  ((w.alloc (.cells #[.bool g1, .string (T (some a)), .string (T (some b))] 42)).alloc (.cells #[.bool g2, .string (T (some c)), .string (T (some d))] 42)).alloc (.cells #[.bool false, .string ⟨#[]⟩, .string ⟨#[]⟩] 42)
theorem SumBoxes.new (w : World) (g1 g2 : Bool) (a b c d : Nat) : SumBoxes (sumW w g1 g2 a b c d) w.heap.size g1 g2 a b c d := by
  have e1 : (w.alloc (.cells #[.bool g1, .string (T (some a)), .string (T (some b))] 42)).heap.size = w.heap.size + 1 := by simp
  have e2 : ((w.alloc (.cells #[.bool g1, .string (T (some a)), .string (T (some b))] 42)).alloc (.cells #[.bool g2, .string (T (some c)), .string (T (some d))] 42)).heap.size = w.heap.size + 1 + 1 := by simp
  refine ⟨((B3.new w _ _ _).alloc _).alloc _, ?_, ?_⟩
  · have h := B3.new (w.alloc (.cells #[.bool g1, .string (T (some a)), .string (T (some b))] 42)) g2 (T (some c)) (T (some d))
    rw [e1] at h
    exact h.alloc _
  · have h := B3.new ((w.alloc (.cells #[.bool g1, .string (T (some a)), .string (T (some b))] 42)).alloc (.cells #[.bool g2, .string (T (some c)), .string (T (some d))] 42)) false ⟨#[]⟩ ⟨#[]⟩
    rw [e2] at h
    exact h
theorem sumW_below (w : World) (g1 g2 : Bool) (a b c d : Nat) : Below w.heap.size w (sumW w g1 g2 a b c d) :=
  (((Below.refl _ w).alloc (Nat.le_refl _) _).alloc (by simp) _).alloc (by simp; omega) _
theorem SumBoxes.alloc {W : World} {B : Nat} {g1 g2 : Bool} {a b c d : Nat} (h : SumBoxes W B g1 g2 a b c d) (o : Obj) : SumBoxes (W.alloc o) B g1 g2 a b c d := ⟨h.1.alloc o, h.2.1.alloc o, h.2.2.alloc o⟩
theorem SumBoxes.below {W W' : World} {B : Nat} {g1 g2 : Bool} {a b c d : Nat} (h : SumBoxes W B g1 g2 a b c d) (hb : Below W.heap.size W W') : SumBoxes W' B g1 g2 a b c d := ⟨h.1.below hb, h.2.1.below hb, h.2.2.below hb⟩

theorem texts3 {W : World} {v : Value} {x y z : Nat} (h : TextsAt W v [x, y, z]) : ∃ g cap, v = .slice (some ⟨g, 0, none⟩) 3 cap ∧ W.cell? ⟨g, 0, none⟩ = some (.string (T (some x))) ∧ W.cell? ⟨g, 1, none⟩ = some (.string (T (some y))) ∧ W.cell? ⟨g, 2, none⟩ = some (.string (T (some z))) := by
  obtain ⟨g, cap, rfl, hg, hc⟩ := h
  exact ⟨g, cap, rfl, hc 0 (by simp), hc 1 (by simp), hc 2 (by simp)⟩
theorem texts2 {W : World} {v : Value} {x y : Nat} (h : TextsAt W v [x, y]) : ∃ g cap, v = .slice (some ⟨g, 0, none⟩) 2 cap ∧ g < W.heap.size ∧ W.cell? ⟨g, 0, none⟩ = some (.string (T (some x))) ∧ W.cell? ⟨g, 1, none⟩ = some (.string (T (some y))) := by
  obtain ⟨g, cap, rfl, hg, hc⟩ := h
  exact ⟨g, cap, rfl, hg, hc 0 (by simp), hc 1 (by simp)⟩

end Nt
end Go.Proofs.YthggedpgcchneaaGreatDoor

