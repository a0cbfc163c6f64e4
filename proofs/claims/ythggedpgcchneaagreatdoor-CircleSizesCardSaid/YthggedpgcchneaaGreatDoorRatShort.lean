/- short: whether numbers have few digits. -/
import Derived.Test.YthggedpgcchneaaGreatDoorRatBox
namespace Go.Proofs.YthggedpgcchneaaGreatDoor
open Go.RowKit Go.Shelf
namespace Nt

/-- The texts of numbers in a row of memory. -/
def RawsAt (W : World) (b : Nat) (l : List (ByteArray × ByteArray)) : Prop := ∀ i (h : i < l.length), W.cell? ⟨b, i * 3 + 1, none⟩ = some (.string l[i].1) ∧ W.cell? ⟨b, i * 3 + 2, none⟩ = some (.string l[i].2)
def shortB (m : Nat) (l : List (ByteArray × ByteArray)) : Bool := l.all fun p => decide (p.1.size ≤ m) && decide (p.2.size ≤ m)
theorem shortB_bad {m : Nat} {l : List (ByteArray × ByteArray)} {k : Nat} (h : k < l.length) (hb : m < l[k].1.size ∨ m < l[k].2.size) : shortB m l = false := by
  unfold shortB
  rw [List.all_eq_false]
  refine ⟨l[k], List.getElem_mem h, ?_⟩
  simp
  omega
theorem shortB_good {m : Nat} {l : List (ByteArray × ByteArray)} (h : ∀ k (hk : k < l.length), l[k].1.size ≤ m ∧ l[k].2.size ≤ m) : shortB m l = true := by
  unfold shortB
  rw [List.all_eq_true]
  intro p hp
  obtain ⟨k, hk, rfl⟩ := List.getElem_of_mem hp
  simpa using h k hk

end Nt
end Go.Proofs.YthggedpgcchneaaGreatDoor
