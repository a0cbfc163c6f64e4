/- Three numbers in memory: what the laws' heads lay. -/
import Derived.Test.YthggedpgcchneaaGreatDoorRatHead
import Derived.Test.YthggedpgcchneaaGreatDoorRatShort
import Derived.Test.YthggedpgcchneaaGreatDoorRatDig
namespace Go.Proofs.YthggedpgcchneaaGreatDoor
open Go.RowKit Go.Shelf
namespace Nt

abbrev triW (w : World) (g1 g2 g3 : Bool) (n1 d1 n2 d2 n3 d3 : ByteArray) : World :=
  ((w.alloc (.cells #[.bool g1, .string n1, .string d1] 42)).alloc (.cells #[.bool g2, .string n2, .string d2] 42)).alloc (.cells #[.bool g3, .string n3, .string d3] 42)
theorem triW_boxes (w : World) (g1 g2 g3 : Bool) (n1 d1 n2 d2 n3 d3 : ByteArray) :
    B3 (triW w g1 g2 g3 n1 d1 n2 d2 n3 d3) w.heap.size g1 n1 d1 ∧ B3 (triW w g1 g2 g3 n1 d1 n2 d2 n3 d3) (w.heap.size + 1) g2 n2 d2 ∧ B3 (triW w g1 g2 g3 n1 d1 n2 d2 n3 d3) (w.heap.size + 1 + 1) g3 n3 d3 := by
  have e1 : (w.alloc (.cells #[.bool g1, .string n1, .string d1] 42)).heap.size = w.heap.size + 1 := by simp
  have e2 : ((w.alloc (.cells #[.bool g1, .string n1, .string d1] 42)).alloc (.cells #[.bool g2, .string n2, .string d2] 42)).heap.size = w.heap.size + 1 + 1 := by simp
  refine ⟨((B3.new w _ _ _).alloc _).alloc _, ?_, ?_⟩
  · have h := B3.new (w.alloc (.cells #[.bool g1, .string n1, .string d1] 42)) g2 n2 d2
    rw [e1] at h
    exact h.alloc _
  · have h := B3.new ((w.alloc (.cells #[.bool g1, .string n1, .string d1] 42)).alloc (.cells #[.bool g2, .string n2, .string d2] 42)) g3 n3 d3
    rw [e2] at h
    exact h
theorem triW_below (w : World) (g1 g2 g3 : Bool) (n1 d1 n2 d2 n3 d3 : ByteArray) : Below w.heap.size w (triW w g1 g2 g3 n1 d1 n2 d2 n3 d3) :=
  (((Below.refl _ w).alloc (Nat.le_refl _) _).alloc (by simp) _).alloc (by simp; omega) _
theorem raws3 (W : World) (g1 g2 g3 : Bool) (n1 d1 n2 d2 n3 d3 : ByteArray) :
    RawsAt (W.alloc (.cells #[.bool g1, .string n1, .string d1, .bool g2, .string n2, .string d2, .bool g3, .string n3, .string d3] 42)) W.heap.size [(n1, d1), (n2, d2), (n3, d3)] := by
  intro i hi
  have h := heap_alloc_new W (.cells #[.bool g1, .string n1, .string d1, .bool g2, .string n2, .string d2, .bool g3, .string n3, .string d3] 42)
  match i, hi with
  | 0, _ => simp only [World.cell?, h]; exact ⟨rfl, rfl⟩
  | 1, _ => simp only [World.cell?, h]; exact ⟨rfl, rfl⟩
  | 2, _ => simp only [World.cell?, h]; exact ⟨rfl, rfl⟩
  | n + 3, hi => simp at hi; omega

end Nt
end Go.Proofs.YthggedpgcchneaaGreatDoor
