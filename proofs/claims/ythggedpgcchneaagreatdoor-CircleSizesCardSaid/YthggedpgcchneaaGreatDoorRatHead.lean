/- The statements' non-vacuity check: the chapter's examples. -/
import Derived.Test.YthggedpgcchneaaGreatDoorRatText
import Derived.Test.YthggedpgcchneaaGreatDoorRatFloor
namespace Go.Proofs.YthggedpgcchneaaGreatDoor
open Go.RowKit Go.Shelf
namespace Nt

theorem qv_lit (q : Rat) (g : Bool) (a b : Nat) (l m : List UInt8) (h1 : q.num = sg g a) (h2 : decide (q.num < 0) = g) (h3 : q.den = b) (hl : isNL l = true) (hv : dval l = a) (hm : isNL m = true) (hw : dval m = b) :
    qv q = .agg #[.bool g, .string ⟨l.toArray⟩, .string ⟨m.toArray⟩] := by
  unfold qv
  rw [h2, h3, h1, sg_natAbs]
  show Value.agg #[.bool g, .string (num a), .string (num b)] = _
  rw [num_lit l a hl hv, num_lit m b hm hw]

theorem short_lit {q : Rat} (h : q.num.natAbs ≤ 1000 ∧ q.den ≤ 1000) : ShortQ q := by
  have h2 : 10 ^ 4 ≤ L1 := Nat.pow_le_pow_right (by omega) (by rw [mx1_eq]; omega)
  exact ⟨by omega, by omega⟩
theorem of0_lit : qv (ofQ 6 (-4)) = .agg #[.bool true, .string ⟨#[51]⟩, .string ⟨#[50]⟩] := qv_lit _ true 3 2 [51] [50] (by decide +kernel) (by decide +kernel) (by decide +kernel) (by decide) (by decide) (by decide) (by decide)
theorem of0_short : ShortQ (ofQ 6 (-4)) := short_lit (by decide +kernel)
theorem of1_lit : qv (ofQ 1 2) = .agg #[.bool false, .string ⟨#[49]⟩, .string ⟨#[50]⟩] := qv_lit _ false 1 2 [49] [50] (by decide +kernel) (by decide +kernel) (by decide +kernel) (by decide) (by decide) (by decide) (by decide)
theorem of1_short : ShortQ (ofQ 1 2) := short_lit (by decide +kernel)
theorem of2_lit : qv (ofQ (-1) 2) = .agg #[.bool true, .string ⟨#[49]⟩, .string ⟨#[50]⟩] := qv_lit _ true 1 2 [49] [50] (by decide +kernel) (by decide +kernel) (by decide +kernel) (by decide) (by decide) (by decide) (by decide)
theorem of2_short : ShortQ (ofQ (-1) 2) := short_lit (by decide +kernel)
theorem of3_lit : qv (ofQ 3 4) = .agg #[.bool false, .string ⟨#[51]⟩, .string ⟨#[52]⟩] := qv_lit _ false 3 4 [51] [52] (by decide +kernel) (by decide +kernel) (by decide +kernel) (by decide) (by decide) (by decide) (by decide)
theorem of3_short : ShortQ (ofQ 3 4) := short_lit (by decide +kernel)
theorem of4_lit : qv (ofQ (-3) 2) = .agg #[.bool true, .string ⟨#[51]⟩, .string ⟨#[50]⟩] := qv_lit _ true 3 2 [51] [50] (by decide +kernel) (by decide +kernel) (by decide +kernel) (by decide) (by decide) (by decide) (by decide)
theorem of4_short : ShortQ (ofQ (-3) 2) := short_lit (by decide +kernel)
theorem of5_lit : qv (ofQ 5 1) = .agg #[.bool false, .string ⟨#[53]⟩, .string ⟨#[49]⟩] := qv_lit _ false 5 1 [53] [49] (by decide +kernel) (by decide +kernel) (by decide +kernel) (by decide) (by decide) (by decide) (by decide)
theorem of5_short : ShortQ (ofQ 5 1) := short_lit (by decide +kernel)
theorem of6_lit : qv (ofQ (-1) 3) = .agg #[.bool true, .string ⟨#[49]⟩, .string ⟨#[51]⟩] := qv_lit _ true 1 3 [49] [51] (by decide +kernel) (by decide +kernel) (by decide +kernel) (by decide) (by decide) (by decide) (by decide)
theorem of6_short : ShortQ (ofQ (-1) 3) := short_lit (by decide +kernel)
theorem hadd_lit : qv (ofQ 1 2 + ofQ (-1) 2) = .agg #[.bool false, .string ⟨#[48]⟩, .string ⟨#[49]⟩] := qv_lit _ false 0 1 [48] [49] (by decide +kernel) (by decide +kernel) (by decide +kernel) (by decide) (by decide) (by decide) (by decide)
theorem hdiv_lit : qv (ofQ 3 4 / ofQ (-1) 2) = .agg #[.bool true, .string ⟨#[51]⟩, .string ⟨#[50]⟩] := qv_lit _ true 3 2 [51] [50] (by decide +kernel) (by decide +kernel) (by decide +kernel) (by decide) (by decide) (by decide) (by decide)
end Nt
end Go.Proofs.YthggedpgcchneaaGreatDoor

