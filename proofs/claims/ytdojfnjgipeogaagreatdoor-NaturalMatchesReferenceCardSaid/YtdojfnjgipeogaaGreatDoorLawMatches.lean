/- NaturalMatchesReference: the walk. -/
import Derived.Test.YtdojfnjgipeogaaGreatDoorRefApi
import Derived.Test.YtdojfnjgipeogaaGreatDoorNatO2
namespace Go.Proofs.YtdojfnjgipeogaaGreatDoor
open Go.RowKit Go.Shelf
namespace Nt

theorem RefIs_b (s : ByteArray) (w : World) (hs : s.size ≤ 140737488355328) : Calls Tryz.prog 15 #[.string s] w fun e w' => e = .returned (.bool (isN s)) ∧ Below w.heap.size w w' :=
  (RefIs_any s w hs).mono fun _ _ h => ⟨h.1, by rw [h.2]; exact Below.refl _ _⟩
theorem RefOf_b (n : Int) (w : World) (hl : -9223372036854775808 ≤ n) (h : n ≤ 9223372036854775807) : Calls Tryz.prog 17 #[.int .i64 n] w fun e w' => e = .returned (.string (ofS n)) ∧ Below w.heap.size w w' :=
  (RefOf_any n w hl h).mono fun _ _ h => ⟨h.1, by rw [h.2]; exact Below.refl _ _⟩

set_option maxRecDepth 100000 in
set_option maxHeartbeats 4000000 in
theorem matches_in (a b : ByteArray) (n : Int) (hl : -9223372036854775808 ≤ n) (hn : n ≤ 9223372036854775807) (sa : a.size ≤ 400) (sb : b.size ≤ 400) (w : World) (hE : Env w) :
    Calls Tryz.prog 4 #[.string a, .string b, .int .i64 n] w fun e w' => e = .returned (.bool true) ∧ Below w.heap.size w w' := by
  replace hE := Lib.hid hE
  have f1 : decide (400 < (a.size : Int)) = false := by simp; omega
  have f2 : decide (400 < (b.size : Int)) = false := by simp; omega
  go_enter Tryz.func4, Tryz.ntmps4
  go_wp2_with fail
  refine (head_any w hE.out).mono ?_
  rintro e w0 ⟨rfl, hb0⟩
  have hB0 := Lib.hid hb0
  clear hb0
  go_wp2_with fail
  refine (Int_any a w0 (hE.out.below hB0.out) (by omega)).mono ?_
  rintro e w1 ⟨rfl, hb1⟩
  have hB1 := Lib.hid (hB0.out.trans (hb1.mono hB0.out.size))
  clear hb1 hB0
  go_wp2_with fail
  refine (RefInt_any a w1 (by omega)).mono ?_
  rintro e w2 ⟨rfl, hb2⟩
  have hB2 := Lib.hid (hB1.out.trans (hb2.mono hB1.out.size))
  clear hb2 hB1
  go_wp2_with fail
  refine (Compare_any a b w2 (hE.out.below hB2.out) (by omega) (by omega)).mono ?_
  rintro e w3 ⟨rfl, hb3⟩
  have hB3 := Lib.hid (hB2.out.trans (hb3.mono hB2.out.size))
  clear hb3 hB2
  go_wp2_with fail
  refine (RefCompare_any a b w3 (by omega) (by omega)).mono ?_
  rintro e w4 ⟨rfl, hb4⟩
  have hB4 := Lib.hid (hB3.out.trans (hb4.mono hB3.out.size))
  clear hb4 hB3
  go_wp2_with fail
  refine (is_any a w4 (by omega)).mono ?_
  rintro e w5 ⟨rfl, hb5⟩
  have hB5 := Lib.hid (hB4.out.trans (hb5.mono hB4.out.size))
  clear hb5 hB4
  go_wp2_with fail
  refine (RefIs_b a w5 (by omega)).mono ?_
  rintro e w6 ⟨rfl, hb6⟩
  have hB6 := Lib.hid (hB5.out.trans (hb6.mono hB5.out.size))
  clear hb6 hB5
  go_wp2_with fail
  refine (Of_any n w6 (hE.out.below hB6.out) hl hn).mono ?_
  rintro e w7 ⟨rfl, hb7⟩
  have hB7 := Lib.hid (hB6.out.trans (hb7.mono hB6.out.size))
  clear hb7 hB6
  go_wp2_with fail
  refine (RefOf_b n w7 hl hn).mono ?_
  rintro e w8 ⟨rfl, hb8⟩
  have hB8 := Lib.hid (hB7.out.trans (hb8.mono hB7.out.size))
  clear hb8 hB7
  go_wp2_with fail
  refine (Add_any a b w8 (hE.out.below hB8.out) (by omega) (by omega)).mono ?_
  rintro e w9 ⟨rfl, hb9⟩
  have hB9 := Lib.hid (hB8.out.trans (hb9.mono hB8.out.size))
  clear hb9 hB8
  go_wp2_with fail
  refine (RefAdd_any a b w9 (by omega) (by omega)).mono ?_
  rintro e w10 ⟨rfl, hb10⟩
  have hB10 := Lib.hid (hB9.out.trans (hb10.mono hB9.out.size))
  clear hb10 hB9
  go_wp2_with fail
  refine (Sub_any a b w10 (hE.out.below hB10.out) (by omega) (by omega)).mono ?_
  rintro e w11 ⟨rfl, hb11⟩
  have hB11 := Lib.hid (hB10.out.trans (hb11.mono hB10.out.size))
  clear hb11 hB10
  go_wp2_with fail
  refine (RefSub_any a b w11 (by omega) (by omega)).mono ?_
  rintro e w12 ⟨rfl, hb12⟩
  have hB12 := Lib.hid (hB11.out.trans (hb12.mono hB11.out.size))
  clear hb12 hB11
  go_wp2_with fail
  refine (Mul_any a b w12 (hE.out.below hB12.out) (by omega) (by omega)).mono ?_
  rintro e w13 ⟨rfl, hb13⟩
  have hB13 := Lib.hid (hB12.out.trans (hb13.mono hB12.out.size))
  clear hb13 hB12
  go_wp2_with fail
  refine (RefMul_any a b w13 (by omega) (by omega)).mono ?_
  rintro e w14 ⟨rfl, hb14⟩
  have hB14 := Lib.hid (hB13.out.trans (hb14.mono hB13.out.size))
  clear hb14 hB13
  go_wp2
  go_ret
  exact ⟨rfl, hB14.out⟩

set_option maxRecDepth 100000 in
set_option maxHeartbeats 4000000 in
theorem matches_big1 (a b : ByteArray) (n : Int) (_hl : -9223372036854775808 ≤ n) (_hn : n ≤ 9223372036854775807) (sa : 400 < a.size) (w : World) (hE : Env w) :
    Calls Tryz.prog 4 #[.string a, .string b, .int .i64 n] w fun e w' => e = .returned (.bool true) ∧ Below w.heap.size w w' := by
  replace hE := Lib.hid hE
  have f1 : decide (400 < (a.size : Int)) = true := by simp; omega
  go_enter Tryz.func4, Tryz.ntmps4
  go_wp2_with fail
  refine (head_any w hE.out).mono ?_
  rintro e w0 ⟨rfl, hb0⟩
  have hB0 := Lib.hid hb0
  clear hb0
  go_wp2
  go_ret
  exact ⟨rfl, hB0.out⟩

set_option maxRecDepth 100000 in
set_option maxHeartbeats 4000000 in
theorem matches_big2 (a b : ByteArray) (n : Int) (_hl : -9223372036854775808 ≤ n) (_hn : n ≤ 9223372036854775807) (sa : a.size ≤ 400) (sb : 400 < b.size) (w : World) (hE : Env w) :
    Calls Tryz.prog 4 #[.string a, .string b, .int .i64 n] w fun e w' => e = .returned (.bool true) ∧ Below w.heap.size w w' := by
  replace hE := Lib.hid hE
  have f1 : decide (400 < (a.size : Int)) = false := by simp; omega
  have f2 : decide (400 < (b.size : Int)) = true := by simp; omega
  go_enter Tryz.func4, Tryz.ntmps4
  go_wp2_with fail
  refine (head_any w hE.out).mono ?_
  rintro e w0 ⟨rfl, hb0⟩
  have hB0 := Lib.hid hb0
  clear hb0
  go_wp2
  go_ret
  exact ⟨rfl, hB0.out⟩

theorem matches_any (a b : ByteArray) (n : Int) (hl : -9223372036854775808 ≤ n) (hn : n ≤ 9223372036854775807) (w : World) (hE : Env w) :
    Calls Tryz.prog 4 #[.string a, .string b, .int .i64 n] w fun e w' => e = .returned (.bool true) ∧ Below w.heap.size w w' := by
  by_cases sa : a.size ≤ 400
  · by_cases sb : b.size ≤ 400
    · exact matches_in a b n hl hn sa sb w hE
    · exact matches_big2 a b n hl hn sa (by omega) w hE
  · exact matches_big1 a b n hl hn (by omega) w hE

end Nt
end Go.Proofs.YtdojfnjgipeogaaGreatDoor

