/- NaturalDividesAsReference: the walk. -/
import Derived.Test.YtdojfnjgipeogaaGreatDoorRefApi
import Derived.Test.YtdojfnjgipeogaaGreatDoorNatO2
namespace Go.Proofs.YtdojfnjgipeogaaGreatDoor
open Go.RowKit Go.Shelf
namespace Nt

set_option maxRecDepth 100000 in
set_option maxHeartbeats 4000000 in
theorem divides_in (a b : ByteArray) (sa : a.size ≤ 400) (sb : b.size ≤ 400) (w : World) (hE : Env w) :
    Calls Tryz.prog 3 #[.string a, .string b] w fun e w' => e = .returned (.bool true) ∧ Below w.heap.size w w' := by
  replace hE := Lib.hid hE
  have f1 : decide (400 < (a.size : Int)) = false := by simp; omega
  have f2 : decide (400 < (b.size : Int)) = false := by simp; omega
  go_enter Tryz.func3, Tryz.ntmps3
  go_wp2_with fail
  refine (head_any w hE.out).mono ?_
  rintro e w0 ⟨rfl, hb0⟩
  have hB0 := Lib.hid hb0
  clear hb0
  go_wp2_with fail
  refine (Div_any a b w0 (hE.out.below hB0.out) (by omega) (by omega)).mono ?_
  rintro e w1 ⟨rfl, hb1⟩
  have hB1 := Lib.hid (hB0.out.trans (hb1.mono hB0.out.size))
  clear hb1 hB0
  go_wp2_with fail
  refine (RefDiv_any a b w1 (by omega) (by omega)).mono ?_
  rintro e w2 ⟨rfl, hb2⟩
  have hB2 := Lib.hid (hB1.out.trans (hb2.mono hB1.out.size))
  clear hb2 hB1
  go_wp2_with fail
  refine (Gcd_any a b w2 (hE.out.below hB2.out) (by omega) (by omega)).mono ?_
  rintro e w3 ⟨rfl, hb3⟩
  have hB3 := Lib.hid (hB2.out.trans (hb3.mono hB2.out.size))
  clear hb3 hB2
  go_wp2_with fail
  refine (RefGcd_any a b w3 (by omega) (by omega)).mono ?_
  rintro e w4 ⟨rfl, hb4⟩
  have hB4 := Lib.hid (hB3.out.trans (hb4.mono hB3.out.size))
  clear hb4 hB3
  go_wp2
  go_ret
  exact ⟨rfl, hB4.out⟩

set_option maxRecDepth 100000 in
set_option maxHeartbeats 4000000 in
theorem divides_big1 (a b : ByteArray) (sa : 400 < a.size) (w : World) (hE : Env w) :
    Calls Tryz.prog 3 #[.string a, .string b] w fun e w' => e = .returned (.bool true) ∧ Below w.heap.size w w' := by
  replace hE := Lib.hid hE
  have f1 : decide (400 < (a.size : Int)) = true := by simp; omega
  go_enter Tryz.func3, Tryz.ntmps3
  go_wp2_with fail
  refine (head_any w hE.out).mono ?_
  rintro e w0 ⟨rfl, hb0⟩
  have hB0 := Lib.hid hb0
  clear hb0
  go_wp2
  go_ret
  exact ⟨rfl, hB0.out⟩

set_option maxRecDepth 100000 in
set_option maxHeartbeats 4000000 in
theorem divides_big2 (a b : ByteArray) (sa : a.size ≤ 400) (sb : 400 < b.size) (w : World) (hE : Env w) :
    Calls Tryz.prog 3 #[.string a, .string b] w fun e w' => e = .returned (.bool true) ∧ Below w.heap.size w w' := by
  replace hE := Lib.hid hE
  have f1 : decide (400 < (a.size : Int)) = false := by simp; omega
  have f2 : decide (400 < (b.size : Int)) = true := by simp; omega
  go_enter Tryz.func3, Tryz.ntmps3
  go_wp2_with fail
  refine (head_any w hE.out).mono ?_
  rintro e w0 ⟨rfl, hb0⟩
  have hB0 := Lib.hid hb0
  clear hb0
  go_wp2
  go_ret
  exact ⟨rfl, hB0.out⟩

theorem divides_any (a b : ByteArray) (w : World) (hE : Env w) :
    Calls Tryz.prog 3 #[.string a, .string b] w fun e w' => e = .returned (.bool true) ∧ Below w.heap.size w w' := by
  by_cases sa : a.size ≤ 400
  · by_cases sb : b.size ≤ 400
    · exact divides_in a b sa sb w hE
    · exact divides_big2 a b sa (by omega) w hE
  · exact divides_big1 a b (by omega) w hE

end Nt
end Go.Proofs.YtdojfnjgipeogaaGreatDoor

