/- ratio's Add, Sub, Mul, Div. -/
import Derived.Test.YthggedpgcchneaaGreatDoorRatQ
import Derived.Test.YthggedpgcchneaaGreatDoorRatRun
namespace Go.Proofs.YthggedpgcchneaaGreatDoor
open Go.RowKit Go.Shelf
namespace Nt

theorem size_of_valid {g : Bool} {n d : ByteArray} (h : validB g n d = true) : n.size ≤ 300 ∧ d.size ≤ 300 := by
  unfold validB at h
  simp only [Bool.and_eq_true] at h
  exact ⟨size_of_isN h.1, size_of_isN h.2.1⟩
theorem short_sizes {q : Rat} (h : ShortQ q) : (T (some q.num.natAbs)).size ≤ 140 ∧ (T (some q.den)).size ≤ 140 := ⟨(size_L1 _).2 h.1, (size_L1 _).2 h.2⟩
theorem short_of_sizes {q : Rat} (h1 : (T (some q.num.natAbs)).size ≤ 140) (h2 : (T (some q.den)).size ≤ 140) : ShortQ q := ⟨(size_L1 _).1 h1, (size_L1 _).1 h2⟩
theorem num_ne_zero {q : Rat} (h : q ≠ 0) : q.num ≠ 0 := fun e => h (Rat.num_eq_zero.1 e)

def cmpQ (p q : Rat) : Int := if p < q then -1 else if p = q then 0 else 1
theorem neg_iff (q : Rat) : q.num < 0 ↔ q < 0 := by
  rw [Rat.lt_iff]
  show _ ↔ q.num * 1 < 0 * _
  omega
theorem sub_neg_iff (p q : Rat) : (p - q).num < 0 ↔ p < q := by
  rw [neg_iff, Rat.sub_lt_iff, Rat.zero_add]
theorem sub_zero_iff (p q : Rat) : p - q = 0 ↔ p = q := by
  constructor
  · intro h
    have e : p - q + q = 0 + q := congrArg (· + q) h
    rwa [Rat.sub_add_cancel, Rat.zero_add] at e
  · intro h; rw [h]; exact Rat.sub_self

end Nt
end Go.Proofs.YthggedpgcchneaaGreatDoor

