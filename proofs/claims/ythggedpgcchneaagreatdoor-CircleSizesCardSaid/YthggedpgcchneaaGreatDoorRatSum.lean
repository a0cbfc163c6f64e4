/- The walks of ratio's products, sum, product, opposite. -/
import Derived.Test.YthggedpgcchneaaGreatDoorRatBox
import Derived.Deep.QuietTactic
import Derived.BigQuiet
import Derived.StillTailTactics
import Derived.Laws.OwnMore
namespace Go.Proofs.YthggedpgcchneaaGreatDoor
open Go.RowKit Go.Shelf
namespace Nt

theorem infoS : (Tryz.prog.info? 9).map (fun i => (i.zero, i.size, i.bytes)) = some (some (.string ⟨#[]⟩), 1, 16) := by kernel_rfl

/-- The cells of texts of numbers. -/
def tvals (ks : List Nat) : List Value := ks.map fun k => Value.string (T (some k))
/-- A slice of texts of numbers. -/
def TextsAt (W : World) (v : Value) (ks : List Nat) : Prop := ∃ g cap, v = .slice (some ⟨g, 0, none⟩) ks.length cap ∧ g < W.heap.size ∧ ∀ i (h : i < ks.length), W.cell? ⟨g, i, none⟩ = some (.string (T (some ks[i])))
theorem tvals_snoc (ks : List Nat) (k : Nat) : tvals ks ++ [Value.string (T (some k))] = tvals (ks ++ [k]) := by simp [tvals]
theorem tvals_at {B : Nat} {W : World} {v : Value} {ks : List Nat} (h : W.ownsRow B 9 1 v ks.length (tvals ks)) (h0 : ks ≠ []) : TextsAt W v ks := by
  rcases id h.2 with ⟨rfl, hx⟩ | ⟨g, cap, cur, rfl, hg, hh, hn, hcm, hcs, ht⟩
  · exact absurd (List.length_eq_zero_iff.1 hx) h0
  · refine ⟨g, cap, rfl, (Array.getElem?_eq_some_iff.1 hh).1, fun i hi => ?_⟩
    rw [World.ownsRow.cellAt h i (by omega)]
    simp [tvals, hi]

/-- The pairs of an argument's memory. -/
def PairsAt (W : World) (b : Nat) (ps : List (Nat × Nat)) : Prop := ∀ i (h : i < ps.length), W.cell? ⟨b, i * 2, none⟩ = some (.string (T (some ps[i].1))) ∧ W.cell? ⟨b, i * 2 + 1, none⟩ = some (.string (T (some ps[i].2)))
def prods (ps : List (Nat × Nat)) : List Nat := ps.map fun p => p.1 * p.2

def PrRel (w : World) (ps : List (Nat × Nat)) (k : Nat) (v : Value) (wr : World) : Prop :=
  wr.ownsRow w.heap.size 9 1 v (prods (ps.take k)).length (tvals (prods (ps.take k))) ∧ Below w.heap.size w wr

theorem ownsRow_belowH {B : Nat} {e : TypeId} {size : Nat} {w w' : World} {v : Value} {n : Nat} {xs : List Value} (h : w.ownsRow B e size v n xs) (hb : Below w.heap.size w w') : w'.ownsRow B e size v n xs := by
  obtain ⟨h1, h2⟩ := h
  refine ⟨h1, ?_⟩
  rcases h2 with h2 | ⟨g, cap, cur, hv, hg, hh, r⟩
  · exact Or.inl h2
  · exact Or.inr ⟨g, cap, cur, hv, hg, by rw [hb.block g (Array.getElem?_eq_some_iff.1 hh).1]; exact hh, r⟩
theorem one_cell_s (s : ByteArray) : ∀ u ∈ [Value.string s], u.oneCell' = true := by
  intro u hu; simp at hu; subst hu; rfl

end Nt
end Go.Proofs.YthggedpgcchneaaGreatDoor
