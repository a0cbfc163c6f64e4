/- One and two numbers in memory: what the laws' heads lay. -/
import Derived.Test.YthggedpgcchneaaGreatDoorRatTri
namespace Go.Proofs.YthggedpgcchneaaGreatDoor
open Go.RowKit Go.Shelf
namespace Nt

abbrev uniW (w : World) (g1 : Bool) (n1 d1 : ByteArray) : World := w.alloc (.cells #[.bool g1, .string n1, .string d1] 42)
theorem uniW_below (w : World) (g1 : Bool) (n1 d1 : ByteArray) : Below w.heap.size w (uniW w g1 n1 d1) := (Below.refl _ w).alloc (Nat.le_refl _) _
abbrev duoW (w : World) (g1 g2 : Bool) (n1 d1 n2 d2 : ByteArray) : World :=
  (w.alloc (.cells #[.bool g1, .string n1, .string d1] 42)).alloc (.cells #[.bool g2, .string n2, .string d2] 42)
theorem duoW_boxes (w : World) (g1 g2 : Bool) (n1 d1 n2 d2 : ByteArray) :
    B3 (duoW w g1 g2 n1 d1 n2 d2) w.heap.size g1 n1 d1 ∧ B3 (duoW w g1 g2 n1 d1 n2 d2) (w.heap.size + 1) g2 n2 d2 := by
  have e1 : (w.alloc (.cells #[.bool g1, .string n1, .string d1] 42)).heap.size = w.heap.size + 1 := by simp
  refine ⟨(B3.new w _ _ _).alloc _, ?_⟩
  have h := B3.new (w.alloc (.cells #[.bool g1, .string n1, .string d1] 42)) g2 n2 d2
  rw [e1] at h
  exact h
theorem duoW_below (w : World) (g1 g2 : Bool) (n1 d1 n2 d2 : ByteArray) : Below w.heap.size w (duoW w g1 g2 n1 d1 n2 d2) :=
  ((Below.refl _ w).alloc (Nat.le_refl _) _).alloc (by simp) _
theorem raws2 (W : World) (g1 g2 : Bool) (n1 d1 n2 d2 : ByteArray) :
    RawsAt (W.alloc (.cells #[.bool g1, .string n1, .string d1, .bool g2, .string n2, .string d2] 42)) W.heap.size [(n1, d1), (n2, d2)] := by
  intro i hi
  have h := heap_alloc_new W (.cells #[.bool g1, .string n1, .string d1, .bool g2, .string n2, .string d2] 42)
  match i, hi with
  | 0, _ => simp only [World.cell?, h]; exact ⟨rfl, rfl⟩
  | 1, _ => simp only [World.cell?, h]; exact ⟨rfl, rfl⟩
  | n + 2, hi => simp at hi; omega
theorem raws1 (W : World) (g1 : Bool) (n1 d1 : ByteArray) :
    RawsAt (W.alloc (.cells #[.bool g1, .string n1, .string d1] 42)) W.heap.size [(n1, d1)] := by
  intro i hi
  have h := heap_alloc_new W (.cells #[.bool g1, .string n1, .string d1] 42)
  match i, hi with
  | 0, _ => simp only [World.cell?, h]; exact ⟨rfl, rfl⟩
  | n + 1, hi => simp at hi

end Nt
end Go.Proofs.YthggedpgcchneaaGreatDoor
