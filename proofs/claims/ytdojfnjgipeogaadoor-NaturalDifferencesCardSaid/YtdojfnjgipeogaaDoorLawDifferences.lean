/- NaturalDifferences: the walk. -/
import Derived.Test.YtdojfnjgipeogaaDoorNatO
namespace Go.Proofs.YtdojfnjgipeogaaDoor
open Go.RowKit Go.Shelf
namespace Nt

theorem differences_facts {x y : Option Nat} (okx : Ok x) (hx : x.isSome = true) (hy : y.isSome = true) :
    (sumE x y = 0 → subX (sumO x y) y = 0 ∧ subO (sumO x y) y = x) ∧ (subX x y = 0 → sumE (subO x y) y = 0 ∧ sumO (subO x y) y = x) ∧ (subX x x = 0 ∧ (T (subO x x)).toList = [48]) := by
  obtain ⟨a, rfl⟩ := Option.isSome_iff_exists.1 hx
  obtain ⟨b, rfl⟩ := Option.isSome_iff_exists.1 hy
  have ha := okx a rfl
  refine ⟨fun h => ?_, fun h => ?_, ?_⟩
  · have hl : a + b < Lim := by
      by_cases hl : a + b < Lim
      · exact hl
      · simp [sumE, apE, hl] at h
    have e : sumO (some a) (some b) = some (a + b) := by simp [sumO, apO, limO, hl]
    rw [e]
    simp [subX, subO]
  · have hl : b ≤ a := by
      by_cases hl : b ≤ a
      · exact hl
      · simp [subX, hl] at h
    have e : subO (some a) (some b) = some (a - b) := by simp [subO, hl]
    rw [e]
    have e2 : a - b + b = a := by omega
    simp [sumE, sumO, apO, apE, limO, e2, ha]
  · have e : subO (some a) (some a) = some 0 := by simp [subO]
    rw [e]
    exact ⟨by simp [subX], toL_zero⟩

set_option maxRecDepth 100000 in
set_option maxHeartbeats 4000000 in
theorem differences_walk {x y : Option Nat} (okx : Ok x) (oky : Ok y) (hx : x.isSome = true) (hy : y.isSome = true) (w : World) (hE : Env w) :
    Calls Tryd.prog 7 #[.string (T x), .string (T y)] w fun e w' => e = .returned (.bool true) ∧ Below w.heap.size w w' := by
  replace hE := Lib.hid hE
  have HF := Lib.hid (differences_facts okx hx hy)
  replace okx := Lib.hid okx
  replace oky := Lib.hid oky
  go_enter Tryd.func7, Tryd.ntmps7
  go_wp2_with fail
  refine (head_any w hE.out).mono ?_
  rintro e w0 ⟨rfl, hb0⟩
  have hB0 := Lib.hid hb0
  clear hb0
  go_wp2_with fail
  refine (isOk x okx.out w0).mono ?_
  rintro e w1 ⟨rfl, hb1⟩
  rw [hx]
  have hB1 := Lib.hid (hB0.out.trans (hb1.mono hB0.out.size))
  clear hb1 hB0
  go_wp2_with fail
  refine (isOk y oky.out w1).mono ?_
  rintro e w2 ⟨rfl, hb2⟩
  rw [hy]
  have hB2 := Lib.hid (hB1.out.trans (hb2.mono hB1.out.size))
  clear hb2 hB1
  go_wp2_with fail
  refine (addT x y w2 (hE.out.below hB2.out) okx.out oky.out).mono ?_
  rintro e w3 ⟨rfl, hb3⟩
  have hB3 := Lib.hid (hB2.out.trans (hb3.mono hB2.out.size))
  clear hb3 hB2
  go_wp2_with fail
  refine (subT (sumO x y) y w3 (hE.out.below hB3.out) (ok_sum x y) oky.out).mono ?_
  rintro e w4 ⟨rfl, hb4⟩
  have hB4 := Lib.hid (hB3.out.trans (hb4.mono hB3.out.size))
  clear hb4 hB3
  go_wp2_with fail
  refine (subT x y w4 (hE.out.below hB4.out) okx.out oky.out).mono ?_
  rintro e w5 ⟨rfl, hb5⟩
  have hB5 := Lib.hid (hB4.out.trans (hb5.mono hB4.out.size))
  clear hb5 hB4
  go_wp2_with fail
  refine (addT (subO x y) y w5 (hE.out.below hB5.out) (ok_sub okx.out) oky.out).mono ?_
  rintro e w6 ⟨rfl, hb6⟩
  have hB6 := Lib.hid (hB5.out.trans (hb6.mono hB5.out.size))
  clear hb6 hB5
  go_wp2_with fail
  refine (subT x x w6 (hE.out.below hB6.out) okx.out okx.out).mono ?_
  rintro e w7 ⟨rfl, hb7⟩
  have hB7 := Lib.hid (hB6.out.trans (hb7.mono hB6.out.size))
  clear hb7 hB6
  go_wp2_with fail
  all_goals go_ret
  all_goals refine ⟨?_, hB7.out⟩
  all_goals obtain ⟨F1, F2, F3⟩ := HF.out
  all_goals simp_all

set_option maxRecDepth 100000 in
set_option maxHeartbeats 4000000 in
theorem differences_no0 (a b : ByteArray) (w : World) (hE : Env w)  (sa : a.size ≤ 140737488355328) (ha : isN a = false) :
    Calls Tryd.prog 7 #[.string a, .string b] w fun e w' => e = .returned (.bool true) ∧ Below w.heap.size w w' := by
  replace hE := Lib.hid hE
  replace ha := Lib.hid ha
  go_enter Tryd.func7, Tryd.ntmps7
  go_wp2_with fail
  refine (head_any w hE.out).mono ?_
  rintro e w0 ⟨rfl, hb0⟩
  have hB0 := Lib.hid hb0
  clear hb0
  go_wp2_with fail
  refine (is_any a w0 (by omega)).mono ?_
  rintro e w1 ⟨rfl, hb1⟩
  rw [ha.out]
  have hB1 := Lib.hid (hB0.out.trans (hb1.mono hB0.out.size))
  clear hb1 hB0
  go_wp2
  go_ret
  exact ⟨rfl, hB1.out⟩

set_option maxRecDepth 100000 in
set_option maxHeartbeats 4000000 in
theorem differences_no1 (a b : ByteArray) (w : World) (hE : Env w) (ha : isN a = true) (sa : a.size ≤ 140737488355328) (sb : b.size ≤ 140737488355328) (hb : isN b = false) :
    Calls Tryd.prog 7 #[.string a, .string b] w fun e w' => e = .returned (.bool true) ∧ Below w.heap.size w w' := by
  replace hE := Lib.hid hE
  replace ha := Lib.hid ha
  replace hb := Lib.hid hb
  go_enter Tryd.func7, Tryd.ntmps7
  go_wp2_with fail
  refine (head_any w hE.out).mono ?_
  rintro e w0 ⟨rfl, hb0⟩
  have hB0 := Lib.hid hb0
  clear hb0
  go_wp2_with fail
  refine (is_any a w0 (by omega)).mono ?_
  rintro e w1 ⟨rfl, hb1⟩
  rw [ha.out]
  have hB1 := Lib.hid (hB0.out.trans (hb1.mono hB0.out.size))
  clear hb1 hB0
  go_wp2_with fail
  refine (is_any b w1 (by omega)).mono ?_
  rintro e w2 ⟨rfl, hb2⟩
  rw [hb.out]
  have hB2 := Lib.hid (hB1.out.trans (hb2.mono hB1.out.size))
  clear hb2 hB1
  go_wp2
  go_ret
  exact ⟨rfl, hB2.out⟩

theorem differences_any (a b : ByteArray) (w : World) (hE : Env w) (sa : a.size ≤ 140737488355328) (sb : b.size ≤ 140737488355328) :
    Calls Tryd.prog 7 #[.string a, .string b] w fun e w' => e = .returned (.bool true) ∧ Below w.heap.size w w' := by
  cases ha : isN a with
  | false => exact differences_no0 a b w hE  sa ha
  | true =>
    cases hb : isN b with
    | false => exact differences_no1 a b w hE ha sa sb hb
    | true =>
      obtain ⟨a', ka, rfl⟩ := of_isN ha
      obtain ⟨b', kb, rfl⟩ := of_isN hb
      exact differences_walk (ok_some ka) (ok_some kb) rfl rfl w hE

end Nt
end Go.Proofs.YtdojfnjgipeogaaDoor

