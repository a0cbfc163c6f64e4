/- NaturalDigits: the walk. -/
import Derived.Test.YtdojfnjgipeogaaDoorNatO2
namespace Go.Proofs.YtdojfnjgipeogaaDoor
open Go.RowKit Go.Shelf
namespace Nt

set_option maxRecDepth 100000 in
set_option maxHeartbeats 4000000 in
theorem digits_neg (n : Int) (hn : n < 0) (hl : -9223372036854775808 ≤ n) (a b : ByteArray) (sa : a.size ≤ 400) (sb : b.size ≤ 400) (w : World) (hE : Env w) :
    Calls Tryd.prog 3 #[.int .i64 n, .string a, .string b] w fun e w' => e = .returned (.bool true) ∧ Below w.heap.size w w' := by
  replace hE := Lib.hid hE
  have HI := Lib.hid (int_cases a)
  have HC := Lib.hid (cmp_facts a b)
  have f1 : decide (400 < (a.size : Int)) = false := by simp; omega
  have f2 : decide (400 < (b.size : Int)) = false := by simp; omega
  go_enter Tryd.func3, Tryd.ntmps3
  go_wp2_with fail
  refine (head_any w hE.out).mono ?_
  rintro e w0 ⟨rfl, hb0⟩
  have hB0 := Lib.hid hb0
  clear hb0
  go_wp2_with fail
  refine (ofNeg n w0 (hE.out.below hB0.out) hl hn).mono ?_
  rintro e w1 ⟨rfl, hb1⟩
  have hB1 := Lib.hid (hB0.out.trans (hb1.mono hB0.out.size))
  clear hb1 hB0
  go_wp2_with fail
  refine (intEmpty w1 (hE.out.below hB1.out)).mono ?_
  rintro e w2 ⟨rfl, hb2⟩
  have hB2 := Lib.hid (hB1.out.trans (hb2.mono hB1.out.size))
  clear hb2 hB1
  go_wp2_with fail
  refine (Int_any a w2 (hE.out.below hB2.out) (by omega)).mono ?_
  rintro e w3 ⟨rfl, hb3⟩
  have hB3 := Lib.hid (hB2.out.trans (hb3.mono hB2.out.size))
  clear hb3 hB2
  rcases HI.out with h1 | ⟨j, hj, h1, h2, h3⟩
  · have h1 : (intE a == 0) = false := by simpa using h1
    go_wp2_with fail
    refine (Compare_any a b w3 (hE.out.below hB3.out) (by omega) (by omega)).mono ?_
    rintro e w4 ⟨rfl, hb4⟩
    have hB4 := Lib.hid (hB3.out.trans (hb4.mono hB3.out.size))
    clear hb4 hB3
    rcases HC.out with ⟨c1, c2, c3, c4⟩ | ⟨c1, c2 | ⟨c2, c3⟩⟩
    · rw [c3]
      have H1 := Lib.hid c1
      have H2 := Lib.hid c2
      have HK := Lib.hid (cmp_beq c4)
      clear c1 c2 c3 c4
      go_wp2_with fail
      refine (is_any a w4 (by omega)).mono ?_
      rintro e w5 ⟨rfl, hb5⟩
      rw [H1.out]
      have hB5 := Lib.hid (hB4.out.trans (hb5.mono hB4.out.size))
      clear hb5 hB4
      go_wp2_with fail
      refine (is_any b w5 (by omega)).mono ?_
      rintro e w6 ⟨rfl, hb6⟩
      rw [H2.out]
      have hB6 := Lib.hid (hB5.out.trans (hb6.mono hB5.out.size))
      clear hb6 hB5
      go_wp2_with fail
      all_goals go_ret
      all_goals refine ⟨?_, hB6.out⟩
      all_goals have F := HK.out
      all_goals clear hE HK
      all_goals simp_all
    · rw [c1]
      have H1 := Lib.hid c2
      clear c1 c2
      go_wp2_with fail
      refine (is_any a w4 (by omega)).mono ?_
      rintro e w5 ⟨rfl, hb5⟩
      rw [H1.out]
      have hB5 := Lib.hid (hB4.out.trans (hb5.mono hB4.out.size))
      clear hb5 hB4
      go_wp2
      go_ret
      exact ⟨rfl, hB5.out⟩
    · rw [c1]
      have H1 := Lib.hid c2
      have H2 := Lib.hid c3
      clear c1 c2 c3
      go_wp2_with fail
      refine (is_any a w4 (by omega)).mono ?_
      rintro e w5 ⟨rfl, hb5⟩
      rw [H1.out]
      have hB5 := Lib.hid (hB4.out.trans (hb5.mono hB4.out.size))
      clear hb5 hB4
      go_wp2_with fail
      refine (is_any b w5 (by omega)).mono ?_
      rintro e w6 ⟨rfl, hb6⟩
      rw [H2.out]
      have hB6 := Lib.hid (hB5.out.trans (hb6.mono hB5.out.size))
      clear hb6 hB5
      go_wp2
      go_ret
      exact ⟨rfl, hB6.out⟩
  · rw [h1, h2]
    have HJ := Lib.hid h3
    clear h1 h2 h3
    go_wp2_with fail
    refine (ofT j w3 (hE.out.below hB3.out) hj).mono ?_
    rintro e w4 ⟨rfl, hb4⟩
    rw [← HJ.out]
    have hB4 := Lib.hid (hB3.out.trans (hb4.mono hB3.out.size))
    clear hb4 hB3
    go_wp2_with fail
    refine (Compare_any a b w4 (hE.out.below hB4.out) (by omega) (by omega)).mono ?_
    rintro e w5 ⟨rfl, hb5⟩
    have hB5 := Lib.hid (hB4.out.trans (hb5.mono hB4.out.size))
    clear hb5 hB4
    rcases HC.out with ⟨c1, c2, c3, c4⟩ | ⟨c1, c2 | ⟨c2, c3⟩⟩
    · rw [c3]
      have H1 := Lib.hid c1
      have H2 := Lib.hid c2
      have HK := Lib.hid (cmp_beq c4)
      clear c1 c2 c3 c4
      go_wp2_with fail
      refine (is_any a w5 (by omega)).mono ?_
      rintro e w6 ⟨rfl, hb6⟩
      rw [H1.out]
      have hB6 := Lib.hid (hB5.out.trans (hb6.mono hB5.out.size))
      clear hb6 hB5
      go_wp2_with fail
      refine (is_any b w6 (by omega)).mono ?_
      rintro e w7 ⟨rfl, hb7⟩
      rw [H2.out]
      have hB7 := Lib.hid (hB6.out.trans (hb7.mono hB6.out.size))
      clear hb7 hB6
      go_wp2_with fail
      all_goals go_ret
      all_goals refine ⟨?_, hB7.out⟩
      all_goals have F := HK.out
      all_goals clear hE HK
      all_goals simp_all
    · rw [c1]
      have H1 := Lib.hid c2
      clear c1 c2
      go_wp2_with fail
      refine (is_any a w5 (by omega)).mono ?_
      rintro e w6 ⟨rfl, hb6⟩
      rw [H1.out]
      have hB6 := Lib.hid (hB5.out.trans (hb6.mono hB5.out.size))
      clear hb6 hB5
      go_wp2
      go_ret
      exact ⟨rfl, hB6.out⟩
    · rw [c1]
      have H1 := Lib.hid c2
      have H2 := Lib.hid c3
      clear c1 c2 c3
      go_wp2_with fail
      refine (is_any a w5 (by omega)).mono ?_
      rintro e w6 ⟨rfl, hb6⟩
      rw [H1.out]
      have hB6 := Lib.hid (hB5.out.trans (hb6.mono hB5.out.size))
      clear hb6 hB5
      go_wp2_with fail
      refine (is_any b w6 (by omega)).mono ?_
      rintro e w7 ⟨rfl, hb7⟩
      rw [H2.out]
      have hB7 := Lib.hid (hB6.out.trans (hb7.mono hB6.out.size))
      clear hb7 hB6
      go_wp2
      go_ret
      exact ⟨rfl, hB7.out⟩

set_option maxRecDepth 100000 in
set_option maxHeartbeats 4000000 in
theorem digits_pos (k : Nat) (hk : k ≤ 9223372036854775807) (a b : ByteArray) (sa : a.size ≤ 400) (sb : b.size ≤ 400) (w : World) (hE : Env w) :
    Calls Tryd.prog 3 #[.int .i64 (k : Int), .string a, .string b] w fun e w' => e = .returned (.bool true) ∧ Below w.heap.size w w' := by
  replace hE := Lib.hid hE
  have HI := Lib.hid (int_cases a)
  have HC := Lib.hid (cmp_facts a b)
  have f1 : decide (400 < (a.size : Int)) = false := by simp; omega
  have f2 : decide (400 < (b.size : Int)) = false := by simp; omega
  have f3 : decide ((k : Int) < 0) = false := by simp
  have f4 : decide ((0 : Int) ≤ k) = true := by simp
  go_enter Tryd.func3, Tryd.ntmps3
  go_wp2_with fail
  refine (head_any w hE.out).mono ?_
  rintro e w0 ⟨rfl, hb0⟩
  have hB0 := Lib.hid hb0
  clear hb0
  go_wp2_with fail
  refine (ofT k w0 (hE.out.below hB0.out) hk).mono ?_
  rintro e w1 ⟨rfl, hb1⟩
  have hB1 := Lib.hid (hB0.out.trans (hb1.mono hB0.out.size))
  clear hb1 hB0
  go_wp2_with fail
  refine (intT k w1 (hE.out.below hB1.out) hk).mono ?_
  rintro e w2 ⟨rfl, hb2⟩
  have hB2 := Lib.hid (hB1.out.trans (hb2.mono hB1.out.size))
  clear hb2 hB1
  go_wp2_with fail
  refine (isOk (some k) (ok_int hk) w2).mono ?_
  rintro e w3 ⟨rfl, hb3⟩
  rw [Option.isSome_some]
  have hB3 := Lib.hid (hB2.out.trans (hb3.mono hB2.out.size))
  clear hb3 hB2
  go_wp2_with fail
  refine (Int_any a w3 (hE.out.below hB3.out) (by omega)).mono ?_
  rintro e w4 ⟨rfl, hb4⟩
  have hB4 := Lib.hid (hB3.out.trans (hb4.mono hB3.out.size))
  clear hb4 hB3
  rcases HI.out with h1 | ⟨j, hj, h1, h2, h3⟩
  · have h1 : (intE a == 0) = false := by simpa using h1
    go_wp2_with fail
    refine (Compare_any a b w4 (hE.out.below hB4.out) (by omega) (by omega)).mono ?_
    rintro e w5 ⟨rfl, hb5⟩
    have hB5 := Lib.hid (hB4.out.trans (hb5.mono hB4.out.size))
    clear hb5 hB4
    rcases HC.out with ⟨c1, c2, c3, c4⟩ | ⟨c1, c2 | ⟨c2, c3⟩⟩
    · rw [c3]
      have H1 := Lib.hid c1
      have H2 := Lib.hid c2
      have HK := Lib.hid (cmp_beq c4)
      clear c1 c2 c3 c4
      go_wp2_with fail
      refine (is_any a w5 (by omega)).mono ?_
      rintro e w6 ⟨rfl, hb6⟩
      rw [H1.out]
      have hB6 := Lib.hid (hB5.out.trans (hb6.mono hB5.out.size))
      clear hb6 hB5
      go_wp2_with fail
      refine (is_any b w6 (by omega)).mono ?_
      rintro e w7 ⟨rfl, hb7⟩
      rw [H2.out]
      have hB7 := Lib.hid (hB6.out.trans (hb7.mono hB6.out.size))
      clear hb7 hB6
      go_wp2_with fail
      all_goals go_ret
      all_goals refine ⟨?_, hB7.out⟩
      all_goals have F := HK.out
      all_goals clear hE HK
      all_goals simp_all
    · rw [c1]
      have H1 := Lib.hid c2
      clear c1 c2
      go_wp2_with fail
      refine (is_any a w5 (by omega)).mono ?_
      rintro e w6 ⟨rfl, hb6⟩
      rw [H1.out]
      have hB6 := Lib.hid (hB5.out.trans (hb6.mono hB5.out.size))
      clear hb6 hB5
      go_wp2
      go_ret
      exact ⟨rfl, hB6.out⟩
    · rw [c1]
      have H1 := Lib.hid c2
      have H2 := Lib.hid c3
      clear c1 c2 c3
      go_wp2_with fail
      refine (is_any a w5 (by omega)).mono ?_
      rintro e w6 ⟨rfl, hb6⟩
      rw [H1.out]
      have hB6 := Lib.hid (hB5.out.trans (hb6.mono hB5.out.size))
      clear hb6 hB5
      go_wp2_with fail
      refine (is_any b w6 (by omega)).mono ?_
      rintro e w7 ⟨rfl, hb7⟩
      rw [H2.out]
      have hB7 := Lib.hid (hB6.out.trans (hb7.mono hB6.out.size))
      clear hb7 hB6
      go_wp2
      go_ret
      exact ⟨rfl, hB7.out⟩
  · rw [h1, h2]
    have HJ := Lib.hid h3
    clear h1 h2 h3
    go_wp2_with fail
    refine (ofT j w4 (hE.out.below hB4.out) hj).mono ?_
    rintro e w5 ⟨rfl, hb5⟩
    rw [← HJ.out]
    have hB5 := Lib.hid (hB4.out.trans (hb5.mono hB4.out.size))
    clear hb5 hB4
    go_wp2_with fail
    refine (Compare_any a b w5 (hE.out.below hB5.out) (by omega) (by omega)).mono ?_
    rintro e w6 ⟨rfl, hb6⟩
    have hB6 := Lib.hid (hB5.out.trans (hb6.mono hB5.out.size))
    clear hb6 hB5
    rcases HC.out with ⟨c1, c2, c3, c4⟩ | ⟨c1, c2 | ⟨c2, c3⟩⟩
    · rw [c3]
      have H1 := Lib.hid c1
      have H2 := Lib.hid c2
      have HK := Lib.hid (cmp_beq c4)
      clear c1 c2 c3 c4
      go_wp2_with fail
      refine (is_any a w6 (by omega)).mono ?_
      rintro e w7 ⟨rfl, hb7⟩
      rw [H1.out]
      have hB7 := Lib.hid (hB6.out.trans (hb7.mono hB6.out.size))
      clear hb7 hB6
      go_wp2_with fail
      refine (is_any b w7 (by omega)).mono ?_
      rintro e w8 ⟨rfl, hb8⟩
      rw [H2.out]
      have hB8 := Lib.hid (hB7.out.trans (hb8.mono hB7.out.size))
      clear hb8 hB7
      go_wp2_with fail
      all_goals go_ret
      all_goals refine ⟨?_, hB8.out⟩
      all_goals have F := HK.out
      all_goals clear hE HK
      all_goals simp_all
    · rw [c1]
      have H1 := Lib.hid c2
      clear c1 c2
      go_wp2_with fail
      refine (is_any a w6 (by omega)).mono ?_
      rintro e w7 ⟨rfl, hb7⟩
      rw [H1.out]
      have hB7 := Lib.hid (hB6.out.trans (hb7.mono hB6.out.size))
      clear hb7 hB6
      go_wp2
      go_ret
      exact ⟨rfl, hB7.out⟩
    · rw [c1]
      have H1 := Lib.hid c2
      have H2 := Lib.hid c3
      clear c1 c2 c3
      go_wp2_with fail
      refine (is_any a w6 (by omega)).mono ?_
      rintro e w7 ⟨rfl, hb7⟩
      rw [H1.out]
      have hB7 := Lib.hid (hB6.out.trans (hb7.mono hB6.out.size))
      clear hb7 hB6
      go_wp2_with fail
      refine (is_any b w7 (by omega)).mono ?_
      rintro e w8 ⟨rfl, hb8⟩
      rw [H2.out]
      have hB8 := Lib.hid (hB7.out.trans (hb8.mono hB7.out.size))
      clear hb8 hB7
      go_wp2
      go_ret
      exact ⟨rfl, hB8.out⟩

set_option maxRecDepth 100000 in
set_option maxHeartbeats 4000000 in
theorem digits_big1 (n : Int) (a b : ByteArray) (sa : 400 < a.size) (w : World) (hE : Env w) :
    Calls Tryd.prog 3 #[.int .i64 n, .string a, .string b] w fun e w' => e = .returned (.bool true) ∧ Below w.heap.size w w' := by
  replace hE := Lib.hid hE
  have f1 : decide (400 < (a.size : Int)) = true := by simp; omega
  go_enter Tryd.func3, Tryd.ntmps3
  go_wp2_with fail
  refine (head_any w hE.out).mono ?_
  rintro e w0 ⟨rfl, hb0⟩
  have hB0 := Lib.hid hb0
  clear hb0
  go_wp2
  go_ret
  exact ⟨rfl, hB0.out⟩

set_option maxRecDepth 100000 in
set_option maxHeartbeats 4000000 in
theorem digits_big2 (n : Int) (a b : ByteArray) (sa : a.size ≤ 400) (sb : 400 < b.size) (w : World) (hE : Env w) :
    Calls Tryd.prog 3 #[.int .i64 n, .string a, .string b] w fun e w' => e = .returned (.bool true) ∧ Below w.heap.size w w' := by
  replace hE := Lib.hid hE
  have f1 : decide (400 < (a.size : Int)) = false := by simp; omega
  have f2 : decide (400 < (b.size : Int)) = true := by simp; omega
  go_enter Tryd.func3, Tryd.ntmps3
  go_wp2_with fail
  refine (head_any w hE.out).mono ?_
  rintro e w0 ⟨rfl, hb0⟩
  have hB0 := Lib.hid hb0
  clear hb0
  go_wp2
  go_ret
  exact ⟨rfl, hB0.out⟩

theorem digits_any (n : Int) (a b : ByteArray) (hl : -9223372036854775808 ≤ n) (hh : n ≤ 9223372036854775807) (w : World) (hE : Env w) :
    Calls Tryd.prog 3 #[.int .i64 n, .string a, .string b] w fun e w' => e = .returned (.bool true) ∧ Below w.heap.size w w' := by
  by_cases sa : a.size ≤ 400
  · by_cases sb : b.size ≤ 400
    · rcases Int.lt_or_le n 0 with hn | hn
      · exact digits_neg n hn hl a b sa sb w hE
      · obtain ⟨k, rfl⟩ := Int.eq_ofNat_of_zero_le hn
        exact digits_pos k (by omega) a b sa sb w hE
    · exact digits_big2 n a b sa (by omega) w hE
  · exact digits_big1 n a b (by omega) w hE

end Nt
end Go.Proofs.YtdojfnjgipeogaaDoor

