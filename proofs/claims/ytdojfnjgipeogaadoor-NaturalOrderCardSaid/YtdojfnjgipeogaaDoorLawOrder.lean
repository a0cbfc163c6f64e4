/- NaturalOrder: the walks joined. -/
import Derived.Test.YtdojfnjgipeogaaDoorLawOrder0
import Derived.Test.YtdojfnjgipeogaaDoorLawOrder1
import Derived.Test.YtdojfnjgipeogaaDoorLawOrder2
import Derived.Test.YtdojfnjgipeogaaDoorLawOrder3
import Derived.Test.YtdojfnjgipeogaaDoorLawOrder4
import Derived.Test.YtdojfnjgipeogaaDoorLawOrder5
import Derived.Test.YtdojfnjgipeogaaDoorLawOrder6
namespace Go.Proofs.YtdojfnjgipeogaaDoor
open Go.RowKit Go.Shelf
namespace Nt

theorem order_walk {x y z : Option Nat} (okx : Ok x) (oky : Ok y) (okz : Ok z) (hx : x.isSome = true) (hy : y.isSome = true) (hz : z.isSome = true) (w : World) (hE : Env w) :
    Calls Tryd.prog 6 #[.string (T x), .string (T y), .string (T z)] w fun e w' => e = .returned (.bool true) ∧ Below w.heap.size w w' := by
  obtain ⟨a, rfl⟩ := Option.isSome_iff_exists.1 hx
  obtain ⟨b, rfl⟩ := Option.isSome_iff_exists.1 hy
  obtain ⟨c, rfl⟩ := Option.isSome_iff_exists.1 hz
  rcases cmpO_cases a b with ⟨h, hX⟩ | ⟨h, hX⟩ | ⟨h, hX⟩
  · rcases cmpO_cases b c with ⟨k, hZ, _⟩ | ⟨k, hZ, _⟩ | ⟨k, hZ, _⟩
    · rcases cmpO_cases a c with ⟨l, hW, _⟩ | ⟨l, hW, _⟩ | ⟨l, hW, _⟩
      · exact order_lt_l okx oky okz hx hy hz hX hZ hW w hE
      · omega
      · omega
    · rcases cmpO_cases a c with ⟨l, hW, _⟩ | ⟨l, hW, _⟩ | ⟨l, hW, _⟩
      · exact order_lt_e okx oky okz hx hy hz hX hZ hW w hE
      · omega
      · omega
    · exact order_lt_g okx oky okz hx hy hz hX hZ w hE
  · subst h
    rcases cmpO_cases a c with ⟨k, hZ, _⟩ | ⟨k, hZ, _⟩ | ⟨k, hZ, _⟩
    · exact order_eq_l okx oky okz hx hy hz hX hZ hZ w hE
    · exact order_eq_e okx oky okz hx hy hz hX hZ hZ w hE
    · exact order_eq_g okx oky okz hx hy hz hX hZ hZ w hE
  · exact order_gt okx oky okz hx hy hz hX w hE

set_option maxRecDepth 100000 in
set_option maxHeartbeats 4000000 in
theorem order_no0 (a b c : ByteArray) (w : World) (hE : Env w)  (sa : a.size ≤ 140737488355328) (ha : isN a = false) :
    Calls Tryd.prog 6 #[.string a, .string b, .string c] w fun e w' => e = .returned (.bool true) ∧ Below w.heap.size w w' := by
  replace hE := Lib.hid hE
  replace ha := Lib.hid ha
  go_enter Tryd.func6, Tryd.ntmps6
  go_wp2_with fail
  refine (head_any w hE.out).mono ?_
  rintro e w0 ⟨rfl, hb0⟩
  have hB0 := Lib.hid hb0
  clear hb0
  go_wp2_with fail
  refine (is_any a w0 (by omega)).mono ?_
  rintro e w1 ⟨rfl, hb1⟩
  rw [ha.out]
  have hB1 := Lib.hid (hB0.out.trans (hb1.mono hB0.out.size))
  clear hb1 hB0
  go_wp2
  go_ret
  exact ⟨rfl, hB1.out⟩

set_option maxRecDepth 100000 in
set_option maxHeartbeats 4000000 in
theorem order_no1 (a b c : ByteArray) (w : World) (hE : Env w) (ha : isN a = true) (sa : a.size ≤ 140737488355328) (sb : b.size ≤ 140737488355328) (hb : isN b = false) :
    Calls Tryd.prog 6 #[.string a, .string b, .string c] w fun e w' => e = .returned (.bool true) ∧ Below w.heap.size w w' := by
  replace hE := Lib.hid hE
  replace ha := Lib.hid ha
  replace hb := Lib.hid hb
  go_enter Tryd.func6, Tryd.ntmps6
  go_wp2_with fail
  refine (head_any w hE.out).mono ?_
  rintro e w0 ⟨rfl, hb0⟩
  have hB0 := Lib.hid hb0
  clear hb0
  go_wp2_with fail
  refine (is_any a w0 (by omega)).mono ?_
  rintro e w1 ⟨rfl, hb1⟩
  rw [ha.out]
  have hB1 := Lib.hid (hB0.out.trans (hb1.mono hB0.out.size))
  clear hb1 hB0
  go_wp2_with fail
  refine (is_any b w1 (by omega)).mono ?_
  rintro e w2 ⟨rfl, hb2⟩
  rw [hb.out]
  have hB2 := Lib.hid (hB1.out.trans (hb2.mono hB1.out.size))
  clear hb2 hB1
  go_wp2
  go_ret
  exact ⟨rfl, hB2.out⟩

set_option maxRecDepth 100000 in
set_option maxHeartbeats 4000000 in
theorem order_no2 (a b c : ByteArray) (w : World) (hE : Env w) (ha : isN a = true) (sa : a.size ≤ 140737488355328) (hb : isN b = true) (sb : b.size ≤ 140737488355328) (sc : c.size ≤ 140737488355328) (hc : isN c = false) :
    Calls Tryd.prog 6 #[.string a, .string b, .string c] w fun e w' => e = .returned (.bool true) ∧ Below w.heap.size w w' := by
  replace hE := Lib.hid hE
  replace ha := Lib.hid ha
  replace hb := Lib.hid hb
  replace hc := Lib.hid hc
  go_enter Tryd.func6, Tryd.ntmps6
  go_wp2_with fail
  refine (head_any w hE.out).mono ?_
  rintro e w0 ⟨rfl, hb0⟩
  have hB0 := Lib.hid hb0
  clear hb0
  go_wp2_with fail
  refine (is_any a w0 (by omega)).mono ?_
  rintro e w1 ⟨rfl, hb1⟩
  rw [ha.out]
  have hB1 := Lib.hid (hB0.out.trans (hb1.mono hB0.out.size))
  clear hb1 hB0
  go_wp2_with fail
  refine (is_any b w1 (by omega)).mono ?_
  rintro e w2 ⟨rfl, hb2⟩
  rw [hb.out]
  have hB2 := Lib.hid (hB1.out.trans (hb2.mono hB1.out.size))
  clear hb2 hB1
  go_wp2_with fail
  refine (is_any c w2 (by omega)).mono ?_
  rintro e w3 ⟨rfl, hb3⟩
  rw [hc.out]
  have hB3 := Lib.hid (hB2.out.trans (hb3.mono hB2.out.size))
  clear hb3 hB2
  go_wp2
  go_ret
  exact ⟨rfl, hB3.out⟩

theorem order_any (a b c : ByteArray) (w : World) (hE : Env w) (sa : a.size ≤ 140737488355328) (sb : b.size ≤ 140737488355328) (sc : c.size ≤ 140737488355328) :
    Calls Tryd.prog 6 #[.string a, .string b, .string c] w fun e w' => e = .returned (.bool true) ∧ Below w.heap.size w w' := by
  cases ha : isN a with
  | false => exact order_no0 a b c w hE  sa ha
  | true =>
    cases hb : isN b with
    | false => exact order_no1 a b c w hE ha sa sb hb
    | true =>
      cases hc : isN c with
      | false => exact order_no2 a b c w hE ha sa hb sb sc hc
      | true =>
        obtain ⟨a', ka, rfl⟩ := of_isN ha
        obtain ⟨b', kb, rfl⟩ := of_isN hb
        obtain ⟨c', kc, rfl⟩ := of_isN hc
        exact order_walk (ok_some ka) (ok_some kb) (ok_some kc) rfl rfl rfl w hE

end Nt
end Go.Proofs.YtdojfnjgipeogaaDoor

