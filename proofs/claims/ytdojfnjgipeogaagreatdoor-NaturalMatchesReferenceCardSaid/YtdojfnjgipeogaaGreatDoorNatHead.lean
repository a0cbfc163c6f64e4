/- The statements' non-vacuity check. -/
import Derived.Test.YtdojfnjgipeogaaGreatDoorNatApi2
namespace Go.Proofs.YtdojfnjgipeogaaGreatDoor
open Go.RowKit Go.Shelf
namespace Nt

theorem num_lit (l : List UInt8) (n : Nat) (h : isNL l = true) (hv : dval l = n) : num n = ⟨l.toArray⟩ := by
  have := num_val (s := ⟨l.toArray⟩) h
  rw [← this]
  exact congrArg num hv.symm
theorem strL_lit (l : List UInt8) (n : Nat) (h : isNL l = true) (hv : dval l = n) : strL n = ⟨l.toArray⟩ ∧ errL n = 0 := by
  have hlt : n < Lim := by
    have h2 := val_lt (s := ⟨l.toArray⟩) h
    rw [← hv]; exact h2
  unfold strL errL
  rw [if_pos hlt, if_pos hlt]
  exact ⟨num_lit l n h hv, rfl⟩

theorem h0 (w : World) (hE : Env w) : Calls Tryz.prog 22 #[.string ⟨#[49, 50]⟩, .string ⟨#[49, 50]⟩] w fun e w' => e = .returned (.tuple #[.string ⟨#[49, 52, 52]⟩, .int .i64 0]) ∧ Below w.heap.size w w' := by
  refine (Mul_any ⟨#[49, 50]⟩ ⟨#[49, 50]⟩ w hE (by decide) (by decide)).mono ?_
  rintro e w' ⟨rfl, hb⟩
  have h1 := op_good (k := val ⟨#[49, 50]⟩ * val ⟨#[49, 50]⟩) (s := ⟨#[49, 50]⟩) (t := ⟨#[49, 50]⟩) (by decide) (by decide)
  have h2 := strL_lit [49, 52, 52] (val ⟨#[49, 50]⟩ * val ⟨#[49, 50]⟩) (by decide) (by decide)
  refine ⟨?_, hb⟩
  rw [h1.1, h1.2, h2.1, h2.2]
theorem h1 (w : World) (hE : Env w) : Calls Tryz.prog 20 #[.string ⟨#[53]⟩, .string ⟨#[55]⟩] w fun e w' => e = .returned (.tuple #[.string ⟨#[]⟩, .int .i64 10]) ∧ Below w.heap.size w w' := by
  refine (Sub_any ⟨#[53]⟩ ⟨#[55]⟩ w hE (by decide) (by decide)).mono ?_
  rintro e w' ⟨rfl, hb⟩
  have h0 : ¬ val ⟨#[55]⟩ ≤ val ⟨#[53]⟩ := by decide
  have h1 : isN ⟨#[53]⟩ = true := by decide
  have h2 : isN ⟨#[55]⟩ = true := by decide
  refine ⟨?_, hb⟩
  rw [show subS ⟨#[53]⟩ ⟨#[55]⟩ = ⟨#[]⟩ from if_neg (fun h => h0 h.2.2), show subE ⟨#[53]⟩ ⟨#[55]⟩ = 10 by unfold subE; rw [if_pos ⟨h1, h2⟩, if_neg h0]]
theorem h2 (w : World) (hE : Env w) : Calls Tryz.prog 6 #[.string ⟨#[49, 48, 48]⟩, .string ⟨#[55]⟩] w fun e w' => e = .returned (.tuple #[.string ⟨#[49, 52]⟩, .string ⟨#[50]⟩, .int .i64 0]) ∧ Below w.heap.size w w' := by
  refine (Div_any ⟨#[49, 48, 48]⟩ ⟨#[55]⟩ w hE (by decide) (by decide)).mono ?_
  rintro e w' ⟨rfl, hb⟩
  have h0 : val ⟨#[55]⟩ ≠ 0 := by decide
  have h1 : isN ⟨#[49, 48, 48]⟩ = true := by decide
  have h2 : isN ⟨#[55]⟩ = true := by decide
  refine ⟨?_, hb⟩
  rw [show divQ ⟨#[49, 48, 48]⟩ ⟨#[55]⟩ = ⟨#[49, 52]⟩ by unfold divQ; rw [if_pos ⟨h1, h2, h0⟩]; exact num_lit [49, 52] _ (by decide) (by decide),
    show divR ⟨#[49, 48, 48]⟩ ⟨#[55]⟩ = ⟨#[50]⟩ by unfold divR; rw [if_pos ⟨h1, h2, h0⟩]; exact num_lit [50] _ (by decide) (by decide),
    show divE ⟨#[49, 48, 48]⟩ ⟨#[55]⟩ = 0 by unfold divE; rw [if_pos ⟨h1, h2⟩, if_neg h0]]
theorem h3 (w : World) (hE : Env w) : Calls Tryz.prog 6 #[.string ⟨#[55]⟩, .string ⟨#[48]⟩] w fun e w' => e = .returned (.tuple #[.string ⟨#[]⟩, .string ⟨#[]⟩, .int .i64 15]) ∧ Below w.heap.size w w' := by
  refine (Div_any ⟨#[55]⟩ ⟨#[48]⟩ w hE (by decide) (by decide)).mono ?_
  rintro e w' ⟨rfl, hb⟩
  have h0 : val ⟨#[48]⟩ = 0 := by decide
  have h1 : isN ⟨#[55]⟩ = true := by decide
  have h2 : isN ⟨#[48]⟩ = true := by decide
  refine ⟨?_, hb⟩
  rw [show divQ ⟨#[55]⟩ ⟨#[48]⟩ = ⟨#[]⟩ from if_neg (fun h => h.2.2 h0), show divR ⟨#[55]⟩ ⟨#[48]⟩ = ⟨#[]⟩ from if_neg (fun h => h.2.2 h0),
    show divE ⟨#[55]⟩ ⟨#[48]⟩ = 15 by unfold divE; rw [if_pos ⟨h1, h2⟩, if_pos h0]]
theorem h4 (w : World) (hE : Env w) : Calls Tryz.prog 8 #[.string ⟨#[49, 50]⟩, .string ⟨#[49, 56]⟩] w fun e w' => e = .returned (.tuple #[.string ⟨#[54]⟩, .int .i64 0]) ∧ Below w.heap.size w w' := by
  refine (Gcd_any ⟨#[49, 50]⟩ ⟨#[49, 56]⟩ w hE (by decide) (by decide)).mono ?_
  rintro e w' ⟨rfl, hb⟩
  have h1 := op_good (k := Nat.gcd (val ⟨#[49, 50]⟩) (val ⟨#[49, 56]⟩)) (s := ⟨#[49, 50]⟩) (t := ⟨#[49, 56]⟩) (by decide) (by decide)
  have h2 := strL_lit [54] (Nat.gcd (val ⟨#[49, 50]⟩) (val ⟨#[49, 56]⟩)) (by decide) (by decide)
  refine ⟨?_, hb⟩
  rw [h1.1, h1.2, h2.1, h2.2]
theorem h5 (w : World) (hE : Env w) : Calls Tryz.prog 8 #[.string ⟨#[48]⟩, .string ⟨#[48]⟩] w fun e w' => e = .returned (.tuple #[.string ⟨#[48]⟩, .int .i64 0]) ∧ Below w.heap.size w w' := by
  refine (Gcd_any ⟨#[48]⟩ ⟨#[48]⟩ w hE (by decide) (by decide)).mono ?_
  rintro e w' ⟨rfl, hb⟩
  have h1 := op_good (k := Nat.gcd (val ⟨#[48]⟩) (val ⟨#[48]⟩)) (s := ⟨#[48]⟩) (t := ⟨#[48]⟩) (by decide) (by decide)
  have h2 := strL_lit [48] (Nat.gcd (val ⟨#[48]⟩) (val ⟨#[48]⟩)) (by decide) (by decide)
  refine ⟨?_, hb⟩
  rw [h1.1, h1.2, h2.1, h2.2]
theorem h6 (w : World) (hE : Env w) : Calls Tryz.prog 10 #[.string ⟨#[57, 50, 50, 51, 51, 55, 50, 48, 51, 54, 56, 53, 52, 55, 55, 53, 56, 48, 56]⟩] w fun e w' => e = .returned (.tuple #[.int .i64 0, .int .i64 10]) ∧ Below w.heap.size w w' := by
  refine (Int_any ⟨#[57, 50, 50, 51, 51, 55, 50, 48, 51, 54, 56, 53, 52, 55, 55, 53, 56, 48, 56]⟩ w hE (by decide)).mono ?_
  rintro e w' ⟨rfl, hb⟩
  have h0 : ¬ val ⟨#[57, 50, 50, 51, 51, 55, 50, 48, 51, 54, 56, 53, 52, 55, 55, 53, 56, 48, 56]⟩ ≤ 9223372036854775807 := by decide
  have h1 : isN ⟨#[57, 50, 50, 51, 51, 55, 50, 48, 51, 54, 56, 53, 52, 55, 55, 53, 56, 48, 56]⟩ = true := by decide
  refine ⟨?_, hb⟩
  rw [show intV ⟨#[57, 50, 50, 51, 51, 55, 50, 48, 51, 54, 56, 53, 52, 55, 55, 53, 56, 48, 56]⟩ = 0 from if_neg (fun h => h0 h.2), show intE ⟨#[57, 50, 50, 51, 51, 55, 50, 48, 51, 54, 56, 53, 52, 55, 55, 53, 56, 48, 56]⟩ = 10 by unfold intE; rw [if_pos h1, if_neg h0]]
theorem i0 (w : World) : Calls Tryz.prog 14 #[.string ⟨#[48]⟩] w fun e w' => e = .returned (.bool true) ∧ Below w.heap.size w w' := is_any ⟨#[48]⟩ w (by decide)
theorem i1 (w : World) : Calls Tryz.prog 14 #[.string ⟨#[48, 48]⟩] w fun e w' => e = .returned (.bool false) ∧ Below w.heap.size w w' := is_any ⟨#[48, 48]⟩ w (by decide)
theorem i2 (w : World) : Calls Tryz.prog 14 #[.string ⟨#[]⟩] w fun e w' => e = .returned (.bool false) ∧ Below w.heap.size w w' := is_any ⟨#[]⟩ w (by decide)
theorem i3 (w : World) : Calls Tryz.prog 14 #[.string ⟨#[49, 50]⟩] w fun e w' => e = .returned (.bool true) ∧ Below w.heap.size w w' := is_any ⟨#[49, 50]⟩ w (by decide)
theorem ofneg (w : World) (hE : Env w) : Calls Tryz.prog 16 #[.int .i64 (-1)] w fun e w' => e = .returned (.string ⟨#[]⟩) ∧ Below w.heap.size w w' := Of_any (-1) w hE (by omega) (by omega)

set_option maxHeartbeats 2000000 in
set_option maxRecDepth 100000 in
theorem head_any (w : World) (hE : Env w) :
    Calls Tryz.prog 5 #[] w fun e w' => e = .returned (.bool true) ∧ Below w.heap.size w w' := by
  replace hE := Lib.hid hE
  go_enter Tryz.func5, Tryz.ntmps5
  go_wp2_with fail
  refine (h0 w hE.out).mono ?_
  rintro e w0 ⟨rfl, hb0⟩
  have hB0 := Lib.hid hb0
  clear hb0
  go_wp2_with fail
  refine (h1 w0 (hE.out.below hB0.out)).mono ?_
  rintro e w1 ⟨rfl, hb1⟩
  have hB1 := Lib.hid (hB0.out.trans (hb1.mono hB0.out.size))
  clear hb1 hB0
  go_wp2_with fail
  refine (h2 w1 (hE.out.below hB1.out)).mono ?_
  rintro e w2 ⟨rfl, hb2⟩
  have hB2 := Lib.hid (hB1.out.trans (hb2.mono hB1.out.size))
  clear hb2 hB1
  go_wp2_with fail
  refine (h3 w2 (hE.out.below hB2.out)).mono ?_
  rintro e w3 ⟨rfl, hb3⟩
  have hB3 := Lib.hid (hB2.out.trans (hb3.mono hB2.out.size))
  clear hb3 hB2
  go_wp2_with fail
  refine (h4 w3 (hE.out.below hB3.out)).mono ?_
  rintro e w4 ⟨rfl, hb4⟩
  have hB4 := Lib.hid (hB3.out.trans (hb4.mono hB3.out.size))
  clear hb4 hB3
  go_wp2_with fail
  refine (h5 w4 (hE.out.below hB4.out)).mono ?_
  rintro e w5 ⟨rfl, hb5⟩
  have hB5 := Lib.hid (hB4.out.trans (hb5.mono hB4.out.size))
  clear hb5 hB4
  go_wp2_with fail
  refine (h6 w5 (hE.out.below hB5.out)).mono ?_
  rintro e w6 ⟨rfl, hb6⟩
  have hB6 := Lib.hid (hB5.out.trans (hb6.mono hB5.out.size))
  clear hb6 hB5
  go_wp2_with fail
  refine (ofneg w6 (hE.out.below hB6.out)).mono ?_
  rintro e w7 ⟨rfl, hb7⟩
  have hB7 := Lib.hid (hB6.out.trans (hb7.mono hB6.out.size))
  clear hb7 hB6
  go_wp2_with fail
  refine (i0 w7).mono ?_
  rintro e w8 ⟨rfl, hb8⟩
  have hB8 := Lib.hid (hB7.out.trans (hb8.mono hB7.out.size))
  clear hb8 hB7
  go_wp2_with fail
  refine (i1 w8).mono ?_
  rintro e w9 ⟨rfl, hb9⟩
  have hB9 := Lib.hid (hB8.out.trans (hb9.mono hB8.out.size))
  clear hb9 hB8
  go_wp2_with fail
  refine (i2 w9).mono ?_
  rintro e w10 ⟨rfl, hb10⟩
  have hB10 := Lib.hid (hB9.out.trans (hb10.mono hB9.out.size))
  clear hb10 hB9
  go_wp2_with fail
  refine (i3 w10).mono ?_
  rintro e w11 ⟨rfl, hb11⟩
  have hB11 := Lib.hid (hB10.out.trans (hb11.mono hB10.out.size))
  clear hb11 hB10
  go_wp2
  go_ret
  exact ⟨rfl, hB11.out⟩

end Nt
end Go.Proofs.YtdojfnjgipeogaaGreatDoor
