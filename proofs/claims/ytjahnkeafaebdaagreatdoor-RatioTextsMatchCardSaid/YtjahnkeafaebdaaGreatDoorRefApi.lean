/- The reference's exported functions on natural numbers: the same plain functions of their arguments as natural's. -/
import Derived.Test.YtjahnkeafaebdaaGreatDoorRefTimes
import Derived.Test.YtjahnkeafaebdaaGreatDoorRefOver
import Derived.Test.YtjahnkeafaebdaaGreatDoorNatO
namespace Go.Proofs.YtjahnkeafaebdaaGreatDoor
open Go.RowKit Go.Shelf
namespace Nt

theorem big_size {n k : Nat} (h : n < 10 ^ k) (hk : 0 < k) : (num n).size ≤ k := by rw [num_size]; exact decDigits_len h hk
theorem lim_size {n : Nat} (h : n < Lim) : (num n).size ≤ 300 := by
  have := decDigits_len (k := mxd) h (by rw [mxd_eq]; omega)
  rw [num_size, ← mxd_eq]
  exact this
theorem lim2_size {n : Nat} (h : n < Lim * Lim) : (num n).size ≤ 600 := by
  have e : Lim * Lim = 10 ^ (mxd + mxd) := by unfold Lim; rw [Nat.pow_add]
  rw [e] at h
  have := decDigits_len h (by rw [mxd_eq]; omega)
  rw [num_size]
  rw [mxd_eq] at this
  exact this

theorem RefOf_any (n : Int) (w : World) (hl : -9223372036854775808 ≤ n) (h : n ≤ 9223372036854775807) :
    Calls Tryz.prog 76 #[.int .i64 n] w fun e w' => e = .returned (.string (ofS n)) ∧ w = w' := by
  by_cases hn : n < 0
  · have HG : Hid (ofS n = ⟨#[]⟩) := by unfold Hid ofS; rw [if_pos hn]
    go_enter Tryz.func76, Tryz.ntmps76
    go_wp2
    go_ret
    exact ⟨ret_str HG.out.symm, rfl⟩
  · have HG : Hid (ofS n = num n.toNat) := by unfold Hid ofS; rw [if_neg hn]
    have hc := Decimal_any n.toNat w (by omega)
    rw [Int.toNat_of_nonneg (by omega)] at hc
    go_enter Tryz.func76, Tryz.ntmps76
    go_wp2_with fail
    refine hc.mono ?_
    rintro e w' ⟨rfl, rfl⟩
    go_wp2
    go_ret
    exact ⟨ret_str HG.out.symm, rfl⟩

set_option maxRecDepth 100000 in
theorem RefAdd_bad (s t : ByteArray) (w : World) (hs : s.size ≤ 140737488355328) (ht : t.size ≤ 140737488355328) (hb : isN s = false ∨ isN t = false) :
    Calls Tryz.prog 51 #[.string s, .string t] w fun e w' => e = .returned (.tuple #[.string (opS (val s + val t) s t), .int .i64 (opE (val s + val t) s t)]) ∧ Below w.heap.size w w' := by
  have HG := Lib.hid (op_bad (k := val s + val t) hb)
  have c1 := RefIs_any s w hs
  have c2 := RefIs_any t w ht
  cases h1 : isN s with
  | false =>
    rw [h1] at c1
    clear hb h1 c2
    go_enter Tryz.func51, Tryz.ntmps51
    go_wp2_with fail
    refine c1.mono ?_
    rintro e w' ⟨rfl, rfl⟩
    go_wp2
    go_ret2
    exact ⟨by rw [HG.out.1, HG.out.2]; rfl, Below.refl _ _⟩
  | true =>
    have h2 : isN t = false := by rcases hb with h | h; (· rw [h1] at h; cases h); (· exact h)
    rw [h1] at c1
    rw [h2] at c2
    clear hb h1 h2
    go_enter Tryz.func51, Tryz.ntmps51
    go_wp2_with fail
    refine c1.mono ?_
    rintro e w' ⟨rfl, rfl⟩
    go_wp2_with fail
    refine c2.mono ?_
    rintro e w' ⟨rfl, rfl⟩
    go_wp2
    go_ret2
    exact ⟨by rw [HG.out.1, HG.out.2]; rfl, Below.refl _ _⟩

set_option maxRecDepth 100000 in
theorem RefMul_bad (s t : ByteArray) (w : World) (hs : s.size ≤ 140737488355328) (ht : t.size ≤ 140737488355328) (hb : isN s = false ∨ isN t = false) :
    Calls Tryz.prog 50 #[.string s, .string t] w fun e w' => e = .returned (.tuple #[.string (opS (val s * val t) s t), .int .i64 (opE (val s * val t) s t)]) ∧ Below w.heap.size w w' := by
  have HG := Lib.hid (op_bad (k := val s * val t) hb)
  have c1 := RefIs_any s w hs
  have c2 := RefIs_any t w ht
  cases h1 : isN s with
  | false =>
    rw [h1] at c1
    clear hb h1 c2
    go_enter Tryz.func50, Tryz.ntmps50
    go_wp2_with fail
    refine c1.mono ?_
    rintro e w' ⟨rfl, rfl⟩
    go_wp2
    go_ret2
    exact ⟨by rw [HG.out.1, HG.out.2]; rfl, Below.refl _ _⟩
  | true =>
    have h2 : isN t = false := by rcases hb with h | h; (· rw [h1] at h; cases h); (· exact h)
    rw [h1] at c1
    rw [h2] at c2
    clear hb h1 h2
    go_enter Tryz.func50, Tryz.ntmps50
    go_wp2_with fail
    refine c1.mono ?_
    rintro e w' ⟨rfl, rfl⟩
    go_wp2_with fail
    refine c2.mono ?_
    rintro e w' ⟨rfl, rfl⟩
    go_wp2
    go_ret2
    exact ⟨by rw [HG.out.1, HG.out.2]; rfl, Below.refl _ _⟩

set_option maxRecDepth 100000 in
theorem RefGcd_bad (s t : ByteArray) (w : World) (hs : s.size ≤ 140737488355328) (ht : t.size ≤ 140737488355328) (hb : isN s = false ∨ isN t = false) :
    Calls Tryz.prog 55 #[.string s, .string t] w fun e w' => e = .returned (.tuple #[.string (opS (Nat.gcd (val s) (val t)) s t), .int .i64 (opE (Nat.gcd (val s) (val t)) s t)]) ∧ Below w.heap.size w w' := by
  have HG := Lib.hid (op_bad (k := Nat.gcd (val s) (val t)) hb)
  have c1 := RefIs_any s w hs
  have c2 := RefIs_any t w ht
  cases h1 : isN s with
  | false =>
    rw [h1] at c1
    clear hb h1 c2
    go_enter Tryz.func55, Tryz.ntmps55
    go_wp2_with fail
    refine c1.mono ?_
    rintro e w' ⟨rfl, rfl⟩
    go_wp2
    go_ret2
    exact ⟨by rw [HG.out.1, HG.out.2]; rfl, Below.refl _ _⟩
  | true =>
    have h2 : isN t = false := by rcases hb with h | h; (· rw [h1] at h; cases h); (· exact h)
    rw [h1] at c1
    rw [h2] at c2
    clear hb h1 h2
    go_enter Tryz.func55, Tryz.ntmps55
    go_wp2_with fail
    refine c1.mono ?_
    rintro e w' ⟨rfl, rfl⟩
    go_wp2_with fail
    refine c2.mono ?_
    rintro e w' ⟨rfl, rfl⟩
    go_wp2
    go_ret2
    exact ⟨by rw [HG.out.1, HG.out.2]; rfl, Below.refl _ _⟩

theorem cmp_bad {s t : ByteArray} (h : isN s = false ∨ isN t = false) : cmpV s t = 0 ∧ cmpE s t = 1 := by
  have : ¬ (isN s = true ∧ isN t = true) := by rintro ⟨h1, h2⟩; rcases h with h | h <;> simp_all
  unfold cmpV cmpE
  rw [if_neg this, if_neg this]
  exact ⟨rfl, rfl⟩
theorem sub_bad {s t : ByteArray} (h : isN s = false ∨ isN t = false) : subS s t = ⟨#[]⟩ ∧ subE s t = 1 := by
  have : ¬ (isN s = true ∧ isN t = true) := by rintro ⟨h1, h2⟩; rcases h with h | h <;> simp_all
  unfold subS subE
  rw [if_neg (fun h => this ⟨h.1, h.2.1⟩), if_neg this]
  exact ⟨rfl, rfl⟩
theorem div_bad {s t : ByteArray} (h : isN s = false ∨ isN t = false) : divQ s t = ⟨#[]⟩ ∧ divR s t = ⟨#[]⟩ ∧ divE s t = 1 := by
  have : ¬ (isN s = true ∧ isN t = true) := by rintro ⟨h1, h2⟩; rcases h with h | h <;> simp_all
  unfold divQ divR divE
  rw [if_neg (fun h => this ⟨h.1, h.2.1⟩), if_neg (fun h => this ⟨h.1, h.2.1⟩), if_neg this]
  exact ⟨rfl, rfl, rfl⟩

set_option maxRecDepth 100000 in
theorem RefCompare_bad (s t : ByteArray) (w : World) (hs : s.size ≤ 140737488355328) (ht : t.size ≤ 140737488355328) (hb : isN s = false ∨ isN t = false) :
    Calls Tryz.prog 52 #[.string s, .string t] w fun e w' => e = .returned (.tuple #[.int .i64 (cmpV s t), .int .i64 (cmpE s t)]) ∧ Below w.heap.size w w' := by
  have HG := Lib.hid (cmp_bad hb)
  have c1 := RefIs_any s w hs
  have c2 := RefIs_any t w ht
  cases h1 : isN s with
  | false =>
    rw [h1] at c1
    clear hb h1 c2
    go_enter Tryz.func52, Tryz.ntmps52
    go_wp2_with fail
    refine c1.mono ?_
    rintro e w' ⟨rfl, rfl⟩
    go_wp2
    go_ret2
    exact ⟨by rw [HG.out.1, HG.out.2]; rfl, Below.refl _ _⟩
  | true =>
    have h2 : isN t = false := by rcases hb with h | h; (· rw [h1] at h; cases h); (· exact h)
    rw [h1] at c1
    rw [h2] at c2
    clear hb h1 h2
    go_enter Tryz.func52, Tryz.ntmps52
    go_wp2_with fail
    refine c1.mono ?_
    rintro e w' ⟨rfl, rfl⟩
    go_wp2_with fail
    refine c2.mono ?_
    rintro e w' ⟨rfl, rfl⟩
    go_wp2
    go_ret2
    exact ⟨by rw [HG.out.1, HG.out.2]; rfl, Below.refl _ _⟩

set_option maxRecDepth 100000 in
theorem RefSub_bad (s t : ByteArray) (w : World) (hs : s.size ≤ 140737488355328) (ht : t.size ≤ 140737488355328) (hb : isN s = false ∨ isN t = false) :
    Calls Tryz.prog 53 #[.string s, .string t] w fun e w' => e = .returned (.tuple #[.string (subS s t), .int .i64 (subE s t)]) ∧ Below w.heap.size w w' := by
  have HG := Lib.hid (sub_bad hb)
  have c1 := RefIs_any s w hs
  have c2 := RefIs_any t w ht
  cases h1 : isN s with
  | false =>
    rw [h1] at c1
    clear hb h1 c2
    go_enter Tryz.func53, Tryz.ntmps53
    go_wp2_with fail
    refine c1.mono ?_
    rintro e w' ⟨rfl, rfl⟩
    go_wp2
    go_ret2
    exact ⟨by rw [HG.out.1, HG.out.2]; rfl, Below.refl _ _⟩
  | true =>
    have h2 : isN t = false := by rcases hb with h | h; (· rw [h1] at h; cases h); (· exact h)
    rw [h1] at c1
    rw [h2] at c2
    clear hb h1 h2
    go_enter Tryz.func53, Tryz.ntmps53
    go_wp2_with fail
    refine c1.mono ?_
    rintro e w' ⟨rfl, rfl⟩
    go_wp2_with fail
    refine c2.mono ?_
    rintro e w' ⟨rfl, rfl⟩
    go_wp2
    go_ret2
    exact ⟨by rw [HG.out.1, HG.out.2]; rfl, Below.refl _ _⟩

set_option maxRecDepth 100000 in
theorem RefDiv_bad (s t : ByteArray) (w : World) (hs : s.size ≤ 140737488355328) (ht : t.size ≤ 140737488355328) (hb : isN s = false ∨ isN t = false) :
    Calls Tryz.prog 61 #[.string s, .string t] w fun e w' => e = .returned (.tuple #[.string (divQ s t), .string (divR s t), .int .i64 (divE s t)]) ∧ Below w.heap.size w w' := by
  have HG := Lib.hid (div_bad hb)
  have c1 := RefIs_any s w hs
  have c2 := RefIs_any t w ht
  cases h1 : isN s with
  | false =>
    rw [h1] at c1
    clear hb h1 c2
    go_enter Tryz.func61, Tryz.ntmps61
    go_wp2_with fail
    refine c1.mono ?_
    rintro e w' ⟨rfl, rfl⟩
    go_wp2
    go_ret3
    exact ⟨by rw [HG.out.1, HG.out.2.1, HG.out.2.2]; rfl, Below.refl _ _⟩
  | true =>
    have h2 : isN t = false := by rcases hb with h | h; (· rw [h1] at h; cases h); (· exact h)
    rw [h1] at c1
    rw [h2] at c2
    clear hb h1 h2
    go_enter Tryz.func61, Tryz.ntmps61
    go_wp2_with fail
    refine c1.mono ?_
    rintro e w' ⟨rfl, rfl⟩
    go_wp2_with fail
    refine c2.mono ?_
    rintro e w' ⟨rfl, rfl⟩
    go_wp2
    go_ret3
    exact ⟨by rw [HG.out.1, HG.out.2.1, HG.out.2.2]; rfl, Below.refl _ _⟩

set_option maxRecDepth 100000 in
theorem RefAdd_num (a b : Nat) (w : World) (ha : a < Lim) (hb : b < Lim) (hsz : (num (a + b)).size ≤ 1000) :
    Calls Tryz.prog 51 #[.string (num a), .string (num b)] w fun e w' => e = .returned (.tuple #[.string (strL (a + b)), .int .i64 (errL (a + b))]) ∧ Below w.heap.size w w' := by
  have c1 := Plus_any a b w (by have := lim_size ha; omega) (by have := lim_size hb; omega)
  have i1 := RefIs_any (num a) w (by have := lim_size ha; omega)
  have i2 := RefIs_any (num b) w (by have := lim_size hb; omega)
  rw [isN_num ha] at i1
  rw [isN_num hb] at i2
  have c2 := fun W => reflimited_any (a + b) W (by omega)
  go_enter Tryz.func51, Tryz.ntmps51
  go_wp2_with fail
  refine i1.mono ?_
  rintro e w' ⟨rfl, rfl⟩
  go_wp2_with fail
  refine i2.mono ?_
  rintro e w' ⟨rfl, rfl⟩
  clear i1 i2
  go_wp2_with fail
  refine (c1).mono ?_
  rintro e w1 ⟨rfl, hb1⟩
  replace hb1 := Lib.hid hb1
  go_wp2_with fail
  refine (c2 _).mono ?_
  rintro e w2 ⟨rfl, rfl⟩
  clear c1 c2
  go_wp2
  go_ret2
  exact ⟨rfl, hb1.out⟩

set_option maxRecDepth 100000 in
theorem RefMul_num (a b : Nat) (w : World) (ha : a < Lim) (hb : b < Lim) (hsz : (num (a * b)).size ≤ 1000) :
    Calls Tryz.prog 50 #[.string (num a), .string (num b)] w fun e w' => e = .returned (.tuple #[.string (strL (a * b)), .int .i64 (errL (a * b))]) ∧ Below w.heap.size w w' := by
  have c1 := Times_any a b w (by have := lim_size ha; omega) (by have := lim_size hb; omega)
  have i1 := RefIs_any (num a) w (by have := lim_size ha; omega)
  have i2 := RefIs_any (num b) w (by have := lim_size hb; omega)
  rw [isN_num ha] at i1
  rw [isN_num hb] at i2
  have c2 := fun W => reflimited_any (a * b) W (by omega)
  go_enter Tryz.func50, Tryz.ntmps50
  go_wp2_with fail
  refine i1.mono ?_
  rintro e w' ⟨rfl, rfl⟩
  go_wp2_with fail
  refine i2.mono ?_
  rintro e w' ⟨rfl, rfl⟩
  clear i1 i2
  go_wp2_with fail
  refine (c1).mono ?_
  rintro e w1 ⟨rfl, hb1⟩
  replace hb1 := Lib.hid hb1
  go_wp2_with fail
  refine (c2 _).mono ?_
  rintro e w2 ⟨rfl, rfl⟩
  clear c1 c2
  go_wp2
  go_ret2
  exact ⟨rfl, hb1.out⟩

set_option maxRecDepth 100000 in
theorem RefGcd_num (a b : Nat) (w : World) (ha : a < Lim) (hb : b < Lim) :
    Calls Tryz.prog 55 #[.string (num a), .string (num b)] w fun e w' => e = .returned (.tuple #[.string (num (Nat.gcd a b)), .int .i64 0]) ∧ Below w.heap.size w w' := by
  have c1 := Common_any a b w (by have := lim_size ha; omega) (by have := lim_size hb; omega)
  have i1 := RefIs_any (num a) w (by have := lim_size ha; omega)
  have i2 := RefIs_any (num b) w (by have := lim_size hb; omega)
  rw [isN_num ha] at i1
  rw [isN_num hb] at i2
  go_enter Tryz.func55, Tryz.ntmps55
  go_wp2_with fail
  refine i1.mono ?_
  rintro e w' ⟨rfl, rfl⟩
  go_wp2_with fail
  refine i2.mono ?_
  rintro e w' ⟨rfl, rfl⟩
  clear i1 i2
  go_wp2_with fail
  refine (c1).mono ?_
  rintro e w1 ⟨rfl, hb1⟩
  replace hb1 := Lib.hid hb1
  clear c1
  go_wp2
  go_ret2
  exact ⟨rfl, hb1.out⟩

set_option maxRecDepth 100000 in
theorem RefCompare_num (a b : Nat) (w : World) (ha : a < Lim) (hb : b < Lim) :
    Calls Tryz.prog 52 #[.string (num a), .string (num b)] w fun e w' => e = .returned (.tuple #[.int .i64 (cmpN a b), .int .i64 0]) ∧ Below w.heap.size w w' := by
  have c1 := Order_any a b w (by have := lim_size ha; omega) (by have := lim_size hb; omega)
  have i1 := RefIs_any (num a) w (by have := lim_size ha; omega)
  have i2 := RefIs_any (num b) w (by have := lim_size hb; omega)
  rw [isN_num ha] at i1
  rw [isN_num hb] at i2
  go_enter Tryz.func52, Tryz.ntmps52
  go_wp2_with fail
  refine i1.mono ?_
  rintro e w' ⟨rfl, rfl⟩
  go_wp2_with fail
  refine i2.mono ?_
  rintro e w' ⟨rfl, rfl⟩
  clear i1 i2
  go_wp2_with fail
  refine c1.mono ?_
  rintro e w1 ⟨rfl, rfl⟩
  clear c1
  go_wp2
  go_ret2
  exact ⟨rfl, Below.refl _ _⟩

set_option maxRecDepth 100000 in
theorem RefSub_less (a b : Nat) (w : World) (ha : a < Lim) (hb : b < Lim) (h : a < b) :
    Calls Tryz.prog 53 #[.string (num a), .string (num b)] w fun e w' => e = .returned (.tuple #[.string ⟨#[]⟩, .int .i64 10]) ∧ Below w.heap.size w w' := by
  have c1 := Order_any a b w (by have := lim_size ha; omega) (by have := lim_size hb; omega)
  rw [cmpN_lt h] at c1
  have i1 := RefIs_any (num a) w (by have := lim_size ha; omega)
  have i2 := RefIs_any (num b) w (by have := lim_size hb; omega)
  rw [isN_num ha] at i1
  rw [isN_num hb] at i2
  go_enter Tryz.func53, Tryz.ntmps53
  go_wp2_with fail
  refine i1.mono ?_
  rintro e w' ⟨rfl, rfl⟩
  go_wp2_with fail
  refine i2.mono ?_
  rintro e w' ⟨rfl, rfl⟩
  clear i1 i2
  go_wp2_with fail
  refine c1.mono ?_
  rintro e w1 ⟨rfl, rfl⟩
  clear c1
  go_wp2
  go_ret2
  exact ⟨rfl, Below.refl _ _⟩

set_option maxRecDepth 100000 in
theorem RefSub_num (a b : Nat) (w : World) (ha : a < Lim) (hb : b < Lim) (h : b ≤ a) :
    Calls Tryz.prog 53 #[.string (num a), .string (num b)] w fun e w' => e = .returned (.tuple #[.string (num (a - b)), .int .i64 0]) ∧ Below w.heap.size w w' := by
  have c1 := Order_any a b w (by have := lim_size ha; omega) (by have := lim_size hb; omega)
  obtain ⟨c, hc, hc0, hc1⟩ := cmpN_ge h
  rw [← hc] at c1
  have c2 := Minus_any a b w (by have := lim_size ha; omega) h
  clear hc
  have i1 := RefIs_any (num a) w (by have := lim_size ha; omega)
  have i2 := RefIs_any (num b) w (by have := lim_size hb; omega)
  rw [isN_num ha] at i1
  rw [isN_num hb] at i2
  go_enter Tryz.func53, Tryz.ntmps53
  go_wp2_with fail
  refine i1.mono ?_
  rintro e w' ⟨rfl, rfl⟩
  go_wp2_with fail
  refine i2.mono ?_
  rintro e w' ⟨rfl, rfl⟩
  clear i1 i2
  go_wp2_with fail
  refine c1.mono ?_
  rintro e w1 ⟨rfl, rfl⟩
  go_wp2_with fail
  refine (c2).mono ?_
  rintro e w1 ⟨rfl, hb1⟩
  replace hb1 := Lib.hid hb1
  clear c1 c2
  go_wp2
  go_ret2
  exact ⟨rfl, hb1.out⟩

set_option maxRecDepth 100000 in
theorem RefDiv_zero (a : Nat) (w : World) (ha : a < Lim) :
    Calls Tryz.prog 61 #[.string (num a), .string (num 0)] w fun e w' => e = .returned (.tuple #[.string ⟨#[]⟩, .string ⟨#[]⟩, .int .i64 15]) ∧ Below w.heap.size w w' := by
  have hb : 0 < Lim := by omega
  have hz := num_is_zero 0
  rw [decide_eq_true rfl] at hz
  have i1 := RefIs_any (num a) w (by have := lim_size ha; omega)
  have i2 := RefIs_any (num 0) w (by have := lim_size hb; omega)
  rw [isN_num ha] at i1
  rw [isN_num hb] at i2
  go_enter Tryz.func61, Tryz.ntmps61
  go_wp2_with fail
  refine i1.mono ?_
  rintro e w' ⟨rfl, rfl⟩
  go_wp2_with fail
  refine i2.mono ?_
  rintro e w' ⟨rfl, rfl⟩
  clear i1 i2
  go_wp2
  go_ret3
  exact ⟨rfl, Below.refl _ _⟩

set_option maxRecDepth 100000 in
theorem RefDiv_num (a b : Nat) (w : World) (ha : a < Lim) (hb : b < Lim) (h : b ≠ 0) :
    Calls Tryz.prog 61 #[.string (num a), .string (num b)] w fun e w' => e = .returned (.tuple #[.string (num (a / b)), .string (num (a % b)), .int .i64 0]) ∧ Below w.heap.size w w' := by
  have c1 := Over_any a b w (by have := lim_size ha; omega) (by have := lim_size hb; omega) h
  have hz := num_is_zero b
  rw [decide_eq_false h] at hz
  replace h := Lib.hid h
  have i1 := RefIs_any (num a) w (by have := lim_size ha; omega)
  have i2 := RefIs_any (num b) w (by have := lim_size hb; omega)
  rw [isN_num ha] at i1
  rw [isN_num hb] at i2
  go_enter Tryz.func61, Tryz.ntmps61
  go_wp2_with fail
  refine i1.mono ?_
  rintro e w' ⟨rfl, rfl⟩
  go_wp2_with fail
  refine i2.mono ?_
  rintro e w' ⟨rfl, rfl⟩
  clear i1 i2
  go_wp2_with fail
  refine (c1).mono ?_
  rintro e w1 ⟨rfl, hb1⟩
  replace hb1 := Lib.hid hb1
  clear c1
  go_wp2
  go_ret3
  exact ⟨rfl, hb1.out⟩

theorem of_both {s t : ByteArray} : (isN s = false ∨ isN t = false) ∨ ∃ a b, a < Lim ∧ b < Lim ∧ s = num a ∧ t = num b ∧ isN s = true ∧ isN t = true := by
  cases h1 : isN s with
  | false => exact .inl (.inl rfl)
  | true =>
    cases h2 : isN t with
    | false => exact .inl (.inr rfl)
    | true =>
      obtain ⟨a, ha, rfl⟩ := num_of_isN h1
      obtain ⟨b, hb, rfl⟩ := num_of_isN h2
      exact .inr ⟨a, b, ha, hb, rfl, rfl, rfl, rfl⟩

theorem RefAdd_any (s t : ByteArray) (w : World) (hs : s.size ≤ 140737488355328) (ht : t.size ≤ 140737488355328) :
    Calls Tryz.prog 51 #[.string s, .string t] w fun e w' => e = .returned (.tuple #[.string (opS (val s + val t) s t), .int .i64 (opE (val s + val t) s t)]) ∧ Below w.heap.size w w' := by
  rcases of_both (s := s) (t := t) with hb | ⟨a, b, ha, hb, rfl, rfl, h1, h2⟩
  · exact RefAdd_bad s t w hs ht hb
  · have e := op_good (k := val (num a) + val (num b)) h1 h2
    rw [val_num, val_num] at e ⊢
    rw [e.1, e.2]
    exact RefAdd_num a b w ha hb (by
      have h9 : a + b < 10 ^ (mxd + 1) := by
        have e : 10 ^ (mxd + 1) = Lim * 10 := Nat.pow_succ ..
        omega
      have := big_size h9 (by omega)
      have := mxd_eq
      omega)

theorem RefMul_any (s t : ByteArray) (w : World) (hs : s.size ≤ 140737488355328) (ht : t.size ≤ 140737488355328) :
    Calls Tryz.prog 50 #[.string s, .string t] w fun e w' => e = .returned (.tuple #[.string (opS (val s * val t) s t), .int .i64 (opE (val s * val t) s t)]) ∧ Below w.heap.size w w' := by
  rcases of_both (s := s) (t := t) with hb | ⟨a, b, ha, hb, rfl, rfl, h1, h2⟩
  · exact RefMul_bad s t w hs ht hb
  · have e := op_good (k := val (num a) * val (num b)) h1 h2
    rw [val_num, val_num] at e ⊢
    rw [e.1, e.2]
    exact RefMul_num a b w ha hb (by have := lim2_size (Nat.mul_lt_mul'' ha hb); omega)

theorem RefGcd_any (s t : ByteArray) (w : World) (hs : s.size ≤ 140737488355328) (ht : t.size ≤ 140737488355328) :
    Calls Tryz.prog 55 #[.string s, .string t] w fun e w' => e = .returned (.tuple #[.string (opS (Nat.gcd (val s) (val t)) s t), .int .i64 (opE (Nat.gcd (val s) (val t)) s t)]) ∧ Below w.heap.size w w' := by
  rcases of_both (s := s) (t := t) with hb | ⟨a, b, ha, hb, rfl, rfl, h1, h2⟩
  · exact RefGcd_bad s t w hs ht hb
  · have e := op_good (k := Nat.gcd (val (num a)) (val (num b))) h1 h2
    rw [val_num, val_num] at e ⊢
    rw [e.1, e.2]
    have hg : Nat.gcd a b < Lim := gcd_lt ha hb
    unfold strL errL
    rw [if_pos hg, if_pos hg]
    exact RefGcd_num a b w ha hb

theorem RefCompare_any (s t : ByteArray) (w : World) (hs : s.size ≤ 140737488355328) (ht : t.size ≤ 140737488355328) :
    Calls Tryz.prog 52 #[.string s, .string t] w fun e w' => e = .returned (.tuple #[.int .i64 (cmpV s t), .int .i64 (cmpE s t)]) ∧ Below w.heap.size w w' := by
  rcases of_both (s := s) (t := t) with hb | ⟨a, b, ha, hb, rfl, rfl, h1, h2⟩
  · exact RefCompare_bad s t w hs ht hb
  · unfold cmpV cmpE
    rw [if_pos ⟨h1, h2⟩, if_pos ⟨h1, h2⟩, val_num, val_num]
    exact RefCompare_num a b w ha hb

theorem RefSub_any (s t : ByteArray) (w : World) (hs : s.size ≤ 140737488355328) (ht : t.size ≤ 140737488355328) :
    Calls Tryz.prog 53 #[.string s, .string t] w fun e w' => e = .returned (.tuple #[.string (subS s t), .int .i64 (subE s t)]) ∧ Below w.heap.size w w' := by
  rcases of_both (s := s) (t := t) with hb | ⟨a, b, ha, hb, rfl, rfl, h1, h2⟩
  · exact RefSub_bad s t w hs ht hb
  · unfold subS subE
    rw [val_num, val_num]
    by_cases h : b ≤ a
    · rw [if_pos (show isN (num a) = true ∧ isN (num b) = true ∧ b ≤ a from ⟨h1, h2, h⟩), if_pos (show isN (num a) = true ∧ isN (num b) = true from ⟨h1, h2⟩), if_pos h]
      exact RefSub_num a b w ha hb h
    · rw [if_neg (show ¬ (isN (num a) = true ∧ isN (num b) = true ∧ b ≤ a) from fun c => h c.2.2), if_pos (show isN (num a) = true ∧ isN (num b) = true from ⟨h1, h2⟩), if_neg h]
      exact RefSub_less a b w ha hb (by omega)

theorem RefDiv_any (s t : ByteArray) (w : World) (hs : s.size ≤ 140737488355328) (ht : t.size ≤ 140737488355328) :
    Calls Tryz.prog 61 #[.string s, .string t] w fun e w' => e = .returned (.tuple #[.string (divQ s t), .string (divR s t), .int .i64 (divE s t)]) ∧ Below w.heap.size w w' := by
  rcases of_both (s := s) (t := t) with hb | ⟨a, b, ha, hb, rfl, rfl, h1, h2⟩
  · exact RefDiv_bad s t w hs ht hb
  · unfold divQ divR divE
    rw [val_num, val_num]
    by_cases h : b = 0
    · have hn : ¬ (isN (num a) = true ∧ isN (num b) = true ∧ b ≠ 0) := fun c => c.2.2 h
      rw [if_neg hn, if_neg hn, if_pos (show isN (num a) = true ∧ isN (num b) = true from ⟨h1, h2⟩), if_pos h]
      subst h
      exact RefDiv_zero a w ha
    · have hp : isN (num a) = true ∧ isN (num b) = true ∧ b ≠ 0 := ⟨h1, h2, h⟩
      rw [if_pos hp, if_pos hp, if_pos (show isN (num a) = true ∧ isN (num b) = true from ⟨h1, h2⟩), if_neg h]
      exact RefDiv_num a b w ha hb h

/-- While Int reads the digits. -/
theorem RefInt_bad (s : ByteArray) (w : World) (hs : s.size ≤ 140737488355328) (h : isN s = false) :
    Calls Tryz.prog 62 #[.string s] w fun e w' => e = .returned (.tuple #[.int .i64 (intV s), .int .i64 (intE s)]) ∧ Below w.heap.size w w' := by
  have HG : Hid (intV s = 0 ∧ intE s = 1) := by unfold Hid intV intE; rw [if_neg (by rw [h]; simp), if_neg (by rw [h]; simp)]; exact ⟨rfl, rfl⟩
  have c1 := RefIs_any s w hs
  rw [h] at c1
  clear h
  go_enter Tryz.func62, Tryz.ntmps62
  go_wp2_with fail
  refine c1.mono ?_
  rintro e w' ⟨rfl, rfl⟩
  go_wp2
  go_ret2
  exact ⟨by rw [HG.out.1, HG.out.2]; rfl, Below.refl _ _⟩

theorem max_num : (⟨#[57, 50, 50, 51, 51, 55, 50, 48, 51, 54, 56, 53, 52, 55, 55, 53, 56, 48, 55]⟩ : ByteArray) = num 9223372036854775807 := (num_lit [57, 50, 50, 51, 51, 55, 50, 48, 51, 54, 56, 53, 52, 55, 55, 53, 56, 48, 55] _ (by decide) (by decide)).symm

theorem Order_max (a : Nat) (w : World) (ha : (num a).size ≤ 140737488355328) :
    Calls Tryz.prog 83 #[.string (num a), .string ⟨#[57, 50, 50, 51, 51, 55, 50, 48, 51, 54, 56, 53, 52, 55, 55, 53, 56, 48, 55]⟩] w fun e w' => e = .returned (.int .i64 (cmpN a 9223372036854775807)) ∧ w = w' := by
  rw [max_num]
  exact Order_any a 9223372036854775807 w ha (by rw [← max_num]; decide)

theorem RefInt_over (a : Nat) (w : World) (ha : a < Lim) (h : 9223372036854775807 < a) :
    Calls Tryz.prog 62 #[.string (num a)] w fun e w' => e = .returned (.tuple #[.int .i64 0, .int .i64 10]) ∧ Below w.heap.size w w' := by
  have c1 := RefIs_any (num a) w (by have := lim_size ha; omega)
  rw [isN_num ha] at c1
  have c2 := Order_max a w (by have := lim_size ha; omega)
  rw [cmpN_gt h] at c2
  clear h
  go_enter Tryz.func62, Tryz.ntmps62
  go_wp2_with fail
  refine c1.mono ?_
  rintro e w' ⟨rfl, rfl⟩
  go_wp2_with fail
  refine c2.mono ?_
  rintro e w' ⟨rfl, rfl⟩
  go_wp2
  go_ret2
  exact ⟨rfl, Below.refl _ _⟩

theorem cmpN_le {a b : Nat} (h : a ≤ b) : ∃ c : Int, c = cmpN a b ∧ c ≤ 0 := by
  refine ⟨_, rfl, ?_⟩
  unfold cmpN
  split
  · omega
  · rw [if_neg (by omega)]; omega

set_option maxRecDepth 100000 in
theorem RefInt_num (a : Nat) (w : World) (ha : a ≤ 9223372036854775807) (hal : a < Lim) :
    Calls Tryz.prog 62 #[.string (num a)] w fun e w' => e = .returned (.tuple #[.int .i64 (a : Int), .int .i64 0]) ∧ Below w.heap.size w w' := by
  have hsz := lim_size hal
  have c1 := RefIs_any (num a) w (by omega)
  rw [isN_num hal] at c1
  have c2 := Order_max a w (by omega)
  obtain ⟨c, hc, hc0⟩ := cmpN_le ha
  rw [← hc] at c2
  have HD : Hid (∀ c ∈ (num a).data.toList, isDig c) := by unfold Hid; rw [num_list]; exact decDigits_dig a
  have HV : Hid (dval (num a).data.toList = a) := by unfold Hid; rw [num_list, dval_decDigits]
  replace ha := Lib.hid ha
  clear hc hal
  go_enter Tryz.func62, Tryz.ntmps62
  go_wp2_with fail
  refine c1.mono ?_
  rintro e w' ⟨rfl, rfl⟩
  go_wp2_with fail
  refine c2.mono ?_
  rintro e w' ⟨rfl, rfl⟩
  clear c1 c2
  go_wp2
  go_loop [4, 5] (fun n i => ∃ k v : Nat, k ≤ (num a).size ∧ i = .int .i64 (k : Int) ∧ n = .int .i64 (v : Int) ∧ Hid (v = dval ((num a).data.toList.take k))) (fun _ i => (num a).size - (intOf i).toNat)
  case atStart => exact ⟨0, 0, Nat.zero_le _, rfl, rfl, rfl⟩
  case round =>
    obtain ⟨k, v, hk, rfl, rfl, hv⟩ := hrel
    by_cases hlt : k < (num a).size
    · have HS := Lib.hid (dval_take_succ (num a) k hlt)
      have hb : v * 10 + ((num a)[k].toNat - 48) ≤ a := by
        have h2 : dval ((num a).data.toList.take (k + 1)) * 10 ^ ((num a).data.toList.drop (k + 1)).length + dval ((num a).data.toList.drop (k + 1)) = a := by
          rw [← dval_append, List.take_append_drop]; exact HV.out
        rw [hv.out, ← HS.out]
        have h3 : 1 ≤ 10 ^ ((num a).data.toList.drop (k + 1)).length := Nat.pow_pos (by omega)
        have h4 := Nat.mul_le_mul_left (dval ((num a).data.toList.take (k + 1))) h3
        omega
      have hb2 := ha.out
      have hdk : isDig (num a)[k] := HD.out _ (by
        have : (num a)[k] = (num a).data.toList[k]'(by simpa using hlt) := rfl
        rw [this]; exact List.getElem_mem _)
      have h48 : (48 : Int) ≤ ((num a)[k].toNat : Int) := by have := hdk.1; omega
      have h57 : ((num a)[k].toNat : Int) ≤ 57 := by have := hdk.2; omega
      have hvb : (v : Int) * 10 + (((num a)[k].toNat : Int) - 48) ≤ 9223372036854775807 := by omega
      have hvb2 : (v : Int) * 10 ≤ 9223372036854775807 := by omega
      clear hdk hb hb2
      go_wp2
      go_round
      case rel => exact ⟨k + 1, v * 10 + ((num a)[k].toNat - 48), by omega, by go_num, by go_num, by unfold Hid; rw [HS.out, ← hv.out]⟩
      case measure => simp [intOf]; omega
    · obtain rfl : k = (num a).size := by omega
      have e : (num a).data.toList.take (num a).size = (num a).data.toList := List.take_of_length_le (by simp)
      have HF : Hid (v = a) := by unfold Hid; rw [hv.out, e, HV.out]
      clear e
      go_wp2
      go_ret2
      exact ⟨by rw [HF.out]; rfl, Below.refl _ _⟩

theorem RefInt_any (s : ByteArray) (w : World) (hs : s.size ≤ 140737488355328) :
    Calls Tryz.prog 62 #[.string s] w fun e w' => e = .returned (.tuple #[.int .i64 (intV s), .int .i64 (intE s)]) ∧ Below w.heap.size w w' := by
  cases h : isN s with
  | false => exact RefInt_bad s w hs h
  | true =>
    obtain ⟨a, ha, rfl⟩ := num_of_isN h
    unfold intV intE
    rw [val_num, if_pos h]
    by_cases hk : a ≤ 9223372036854775807
    · rw [if_pos ⟨h, hk⟩, if_pos hk]
      exact RefInt_num a w hk ha
    · rw [if_neg (fun c => hk c.2), if_neg hk]
      exact RefInt_over a w ha (by omega)

end Nt
end Go.Proofs.YtjahnkeafaebdaaGreatDoor

