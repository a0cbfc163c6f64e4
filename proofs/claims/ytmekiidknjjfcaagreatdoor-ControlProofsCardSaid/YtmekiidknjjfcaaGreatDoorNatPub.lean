/- The walks of natural's exported functions. -/
import Derived.Test.YtmekiidknjjfcaaGreatDoorNatIs
import Derived.Test.YtmekiidknjjfcaaGreatDoorNatText
import Derived.Test.YtmekiidknjjfcaaGreatDoorNatParse
import Derived.Test.YtmekiidknjjfcaaGreatDoorNatAdd
import Derived.Test.YtmekiidknjjfcaaGreatDoorNatGcd
namespace Go.Proofs.YtmekiidknjjfcaaGreatDoor
open Go.RowKit Go.Shelf
namespace Nt

def val (s : ByteArray) : Nat := dval s.data.toList
theorem val_num (n : Nat) : val (num n) = n := dval_decDigits n
theorem num_val {s : ByteArray} (h : isN s = true) : num (val s) = s := by
  obtain ⟨n, _, rfl⟩ := num_of_isN h
  rw [val_num]
theorem val_lt {s : ByteArray} (h : isN s = true) : val s < Lim := by
  obtain ⟨n, hn, rfl⟩ := num_of_isN h
  rw [val_num]; exact hn
theorem dig_of_isN {s : ByteArray} (h : isN s = true) : ∀ c ∈ s.data.toList, isDig c := ((isNL_iff _).1 h).2.2.1
theorem size_of_isN {s : ByteArray} (h : isN s = true) : s.size ≤ 300 := by
  have := ((isNL_iff _).1 h).2.1
  simpa using this

theorem pow_sq (a b : Nat) (h : a + a ≤ 9 * b) : 10 ^ a * 10 ^ a ≤ 1000000000 ^ b := by
  have e : (1000000000 : Nat) = 10 ^ 9 := rfl
  rw [← Nat.pow_add, e, ← Nat.pow_mul]
  exact Nat.pow_le_pow_right (by omega) h
theorem lim_sq : Lim * Lim ≤ 1000000000 ^ 67 := by
  unfold Lim
  exact pow_sq mxd 67 (by rw [mxd_eq]; omega)
theorem small_of_sq {n : Nat} (h : n < 1000000000 ^ 67 * 1000000000) : Small n := by
  have : 1000000000 ^ 67 * 1000000000 ≤ 1000000000 ^ 200 := by
    rw [← Nat.pow_succ]; exact Nat.pow_le_pow_right (by omega) (by omega)
  exact Nat.lt_of_lt_of_le h this
theorem lim_le : Lim ≤ Lim * Lim := Nat.le_mul_of_pos_left _ (Nat.pow_pos (by omega))
theorem small_lim {n : Nat} (h : n < Lim) : Small n := small_of_sq (by have := lim_sq; have := lim_le; omega)
theorem small_lim9 {n : Nat} (h : n < Lim) : Small (n * 1000000000) := small_of_sq (by have := lim_sq; have := lim_le; omega)
theorem small_add {n m : Nat} (h : n < Lim) (k : m < Lim) : Small (n + m) := small_of_sq (by have := lim_sq; have := lim_le; omega)
theorem small_mul {n m : Nat} (h : n < Lim) (k : m < Lim) : Small (n * m) := small_of_sq (by
  have := lim_sq
  have h1 : n * m ≤ Lim * Lim := Nat.mul_le_mul (by omega) (by omega)
  omega)

/-- A number as a text; the empty one where it is too great. -/
def strL (k : Nat) : ByteArray := if k < Lim then num k else ⟨#[]⟩
/-- .. and the error beside it. -/
def errL (k : Nat) : Int := if k < Lim then 0 else 2
theorem limited_eq (k : Nat) : limited (Lib.decDigits k) = .tuple #[.string (strL k), .int .i64 (errL k)] := by
  have h : 300 < (Lib.decDigits k).length ↔ ¬ k < Lim := by
    have e : (Lib.decDigits k).length ≤ 300 ↔ k < Lim := by
      have := decDigits_len_iff k mxd (by rw [mxd_eq]; omega)
      rw [← mxd_eq]
      exact this
    omega
  unfold limited strL errL
  by_cases hk : k < Lim
  · rw [if_neg (by rw [h]; exact fun c => c hk), if_pos hk, if_pos hk]; rfl
  · rw [if_pos (h.2 hk), if_neg hk, if_neg hk]

def opS (k : Nat) (s t : ByteArray) : ByteArray := if isN s = true ∧ isN t = true then strL k else ⟨#[]⟩
def opE (k : Nat) (s t : ByteArray) : Int := if isN s = true ∧ isN t = true then errL k else 1
def OpPost (k : Nat) (s t : ByteArray) (w : World) (e : Ending) (w' : World) : Prop := e = .returned (.tuple #[.string (opS k s t), .int .i64 (opE k s t)]) ∧ Below w.heap.size w w'

theorem op_bad {k : Nat} {s t : ByteArray} (h : isN s = false ∨ isN t = false) : opS k s t = ⟨#[]⟩ ∧ opE k s t = 1 := by
  have : ¬ (isN s = true ∧ isN t = true) := by rintro ⟨h1, h2⟩; rcases h with h | h <;> simp_all
  unfold opS opE
  rw [if_neg this, if_neg this]
  exact ⟨rfl, rfl⟩
theorem op_good {k : Nat} {s t : ByteArray} (h1 : isN s = true) (h2 : isN t = true) : opS k s t = strL k ∧ opE k s t = errL k := by
  unfold opS opE
  rw [if_pos ⟨h1, h2⟩, if_pos ⟨h1, h2⟩]
  exact ⟨rfl, rfl⟩

theorem parse_num (s : ByteArray) (w : World) (h : isN s = true) : Calls Tryz.prog 96 #[.string s] w (PostNumV w.heap.size w (val s)) :=
  parse_any s w (by have := size_of_isN h; omega) (dig_of_isN h)

theorem gcd_lt {n m : Nat} (hn : n < Lim) (hm : m < Lim) : Nat.gcd n m < Lim := by
  rcases Nat.eq_zero_or_pos n with h | h
  · rw [h, Nat.gcd_zero_left]; exact hm
  · exact Nat.lt_of_le_of_lt (Nat.gcd_le_left m h) hn
theorem small_sum9 {n m : Nat} (h : n < Lim) (k : m < Lim) : Small ((n + m) * 1000000000) := by
  have : 1000000000 ^ 68 * 1000000000 ≤ 1000000000 ^ 200 := by
    rw [← Nat.pow_succ]; exact Nat.pow_le_pow_right (by omega) (by omega)
  have h1 := lim_sq
  have h2 := lim_le
  have h3 : 1000000000 ^ 68 = 1000000000 ^ 67 * 1000000000 := Nat.pow_succ ..
  unfold Small
  omega


set_option maxHeartbeats 1000000 in
theorem apply_add (s t : ByteArray) (w : World) (hE : Env w) (hs : isN s = true) (ht : isN t = true) :
    Calls Tryz.prog 87 #[.string s, .string t, .func (.func 95) #[] #[]] w (OpPost (val s + val t) s t w) := by
  have hss := size_of_isN hs
  have hts := size_of_isN ht
  have hEnv := Lib.hid hE
  have HG := Lib.hid (op_good (k := val s + val t) hs ht)
  have c1 := is_any s w (by omega)
  rw [hs] at c1
  have HS := Lib.hid hs
  have HT := Lib.hid ht
  clear hs ht
  have hs := HS.out
  have ht := HT.out
  replace hs := Lib.hid hs
  replace ht := Lib.hid ht
  replace hE := Lib.hid hE
  go_enter Tryz.func87, Tryz.ntmps87
  go_wp2_with fail
  refine c1.mono ?_
  rintro e w1 ⟨rfl, hb1⟩
  have hbA1 := Lib.hid hb1
  clear hb1
  go_wp2_with fail
  have c2 := is_any t w1 (by omega)
  rw [ht.out] at c2
  refine c2.mono ?_
  rintro e w2 ⟨rfl, hb2⟩
  have hbA2 := Lib.hid (hbA1.out.trans (hb2.mono hbA1.out.size))
  clear hb2 c1 c2 hbA1
  go_wp2_with fail
  refine (parse_num s w2 hs.out).mono ?_
  rintro e w3 ⟨v1, rfl, hn1, _, hb3⟩
  have hbA3 := Lib.hid (hbA2.out.trans (hb3.mono hbA2.out.size))
  replace hn1 := Lib.hid hn1
  clear hb3 hbA2
  go_wp2_with fail
  refine (parse_num t w3 ht.out).mono ?_
  rintro e w4 ⟨v2, rfl, hn2, _, hb2⟩
  have hbA2 := Lib.hid (hbA3.out.trans (hb2.mono hbA3.out.size))
  replace hb2 := Lib.hid hb2
  replace hn2 := Lib.hid hn2
  clear hbA3
  go_wp2_with fail
  have hs' := hs.out
  have ht' := ht.out
  refine (add_any _ v1 v2 (val s) (val t) (hn1.out.below hb2.out) hn2.out (small_lim (val_lt hs.out)) (small_lim (val_lt ht.out))).mono ?_
  rintro e w5 ⟨v3, rfl, hn3, _, hb3⟩
  have hbA5 := Lib.hid (hbA2.out.trans (hb3.mono hbA2.out.size))
  replace hn3 := Lib.hid hn3
  clear hb3 hbA2 hb2 hn1 hn2 hs' ht'
  go_wp2_with fail
  have ct := text_any w5 v3 _ hn3.out (small_add (val_lt hs.out) (val_lt ht.out)) (hE.out.below hbA5.out)
  refine ct.mono ?_
  rintro e w6 ⟨rfl, hb6⟩
  rw [limited_eq]
  have hbA6 := Lib.hid (hbA5.out.trans (hb6.mono hbA5.out.size))
  clear ct hb6 hbA5 hn3
  go_wp2
  go_ret2
  exact ⟨by rw [HG.out.1, HG.out.2]; rfl, hbA6.out⟩

set_option maxHeartbeats 1000000 in
theorem apply_sub (s t : ByteArray) (w : World) (hE : Env w) (hs : isN s = true) (ht : isN t = true) (hle : val t ≤ val s) :
    Calls Tryz.prog 87 #[.string s, .string t, .func (.func 98) #[] #[]] w (OpPost (val s - val t) s t w) := by
  have hss := size_of_isN hs
  have hts := size_of_isN ht
  have hEnv := Lib.hid hE
  have HG := Lib.hid (op_good (k := val s - val t) hs ht)
  have c1 := is_any s w (by omega)
  rw [hs] at c1
  have HS := Lib.hid hs
  have HT := Lib.hid ht
  clear hs ht
  have hs := HS.out
  have ht := HT.out
  replace hs := Lib.hid hs
  replace ht := Lib.hid ht
  replace hE := Lib.hid hE
  go_enter Tryz.func87, Tryz.ntmps87
  go_wp2_with fail
  refine c1.mono ?_
  rintro e w1 ⟨rfl, hb1⟩
  have hbA1 := Lib.hid hb1
  clear hb1
  go_wp2_with fail
  have c2 := is_any t w1 (by omega)
  rw [ht.out] at c2
  refine c2.mono ?_
  rintro e w2 ⟨rfl, hb2⟩
  have hbA2 := Lib.hid (hbA1.out.trans (hb2.mono hbA1.out.size))
  clear hb2 c1 c2 hbA1
  go_wp2_with fail
  refine (parse_num s w2 hs.out).mono ?_
  rintro e w3 ⟨v1, rfl, hn1, _, hb3⟩
  have hbA3 := Lib.hid (hbA2.out.trans (hb3.mono hbA2.out.size))
  replace hn1 := Lib.hid hn1
  clear hb3 hbA2
  go_wp2_with fail
  refine (parse_num t w3 ht.out).mono ?_
  rintro e w4 ⟨v2, rfl, hn2, _, hb2⟩
  have hbA2 := Lib.hid (hbA3.out.trans (hb2.mono hbA3.out.size))
  replace hb2 := Lib.hid hb2
  replace hn2 := Lib.hid hn2
  clear hbA3
  go_wp2_with fail
  have hs' := hs.out
  have ht' := ht.out
  refine (sub_any _ v1 v2 (val s) (val t) (hn1.out.below hb2.out) hn2.out hle (small_lim (val_lt hs.out))).mono ?_
  rintro e w5 ⟨v3, rfl, hn3, _, hb3⟩
  have hbA5 := Lib.hid (hbA2.out.trans (hb3.mono hbA2.out.size))
  replace hn3 := Lib.hid hn3
  clear hb3 hbA2 hb2 hn1 hn2 hs' ht'
  go_wp2_with fail
  have ct := text_any w5 v3 _ hn3.out (small_lim (by have := val_lt hs.out; omega)) (hE.out.below hbA5.out)
  refine ct.mono ?_
  rintro e w6 ⟨rfl, hb6⟩
  rw [limited_eq]
  have hbA6 := Lib.hid (hbA5.out.trans (hb6.mono hbA5.out.size))
  clear ct hb6 hbA5 hn3
  go_wp2
  go_ret2
  exact ⟨by rw [HG.out.1, HG.out.2]; rfl, hbA6.out⟩

set_option maxHeartbeats 1000000 in
theorem apply_mul (s t : ByteArray) (w : World) (hE : Env w) (hs : isN s = true) (ht : isN t = true) :
    Calls Tryz.prog 87 #[.string s, .string t, .func (.func 116) #[] #[]] w (OpPost (val s * val t) s t w) := by
  have hss := size_of_isN hs
  have hts := size_of_isN ht
  have hEnv := Lib.hid hE
  have HG := Lib.hid (op_good (k := val s * val t) hs ht)
  have c1 := is_any s w (by omega)
  rw [hs] at c1
  have HS := Lib.hid hs
  have HT := Lib.hid ht
  clear hs ht
  have hs := HS.out
  have ht := HT.out
  replace hs := Lib.hid hs
  replace ht := Lib.hid ht
  replace hE := Lib.hid hE
  go_enter Tryz.func87, Tryz.ntmps87
  go_wp2_with fail
  refine c1.mono ?_
  rintro e w1 ⟨rfl, hb1⟩
  have hbA1 := Lib.hid hb1
  clear hb1
  go_wp2_with fail
  have c2 := is_any t w1 (by omega)
  rw [ht.out] at c2
  refine c2.mono ?_
  rintro e w2 ⟨rfl, hb2⟩
  have hbA2 := Lib.hid (hbA1.out.trans (hb2.mono hbA1.out.size))
  clear hb2 c1 c2 hbA1
  go_wp2_with fail
  refine (parse_num s w2 hs.out).mono ?_
  rintro e w3 ⟨v1, rfl, hn1, _, hb3⟩
  have hbA3 := Lib.hid (hbA2.out.trans (hb3.mono hbA2.out.size))
  replace hn1 := Lib.hid hn1
  clear hb3 hbA2
  go_wp2_with fail
  refine (parse_num t w3 ht.out).mono ?_
  rintro e w4 ⟨v2, rfl, hn2, _, hb2⟩
  have hbA2 := Lib.hid (hbA3.out.trans (hb2.mono hbA3.out.size))
  replace hb2 := Lib.hid hb2
  replace hn2 := Lib.hid hn2
  clear hbA3
  go_wp2_with fail
  have hs' := hs.out
  have ht' := ht.out
  refine (mul_any _ v1 v2 (val s) (val t) (hn1.out.below hb2.out) hn2.out (small_lim (val_lt hs.out)) (small_lim (val_lt ht.out))).mono ?_
  rintro e w5 ⟨v3, rfl, hn3, _, hb3⟩
  have hbA5 := Lib.hid (hbA2.out.trans (hb3.mono hbA2.out.size))
  replace hn3 := Lib.hid hn3
  clear hb3 hbA2 hb2 hn1 hn2 hs' ht'
  go_wp2_with fail
  have ct := text_any w5 v3 _ hn3.out (small_mul (val_lt hs.out) (val_lt ht.out)) (hE.out.below hbA5.out)
  refine ct.mono ?_
  rintro e w6 ⟨rfl, hb6⟩
  rw [limited_eq]
  have hbA6 := Lib.hid (hbA5.out.trans (hb6.mono hbA5.out.size))
  clear ct hb6 hbA5 hn3
  go_wp2
  go_ret2
  exact ⟨by rw [HG.out.1, HG.out.2]; rfl, hbA6.out⟩

set_option maxHeartbeats 1000000 in
theorem apply_gcd (s t : ByteArray) (w : World) (hE : Env w) (hs : isN s = true) (ht : isN t = true) :
    Calls Tryz.prog 87 #[.string s, .string t, .func (.func 88) #[] #[]] w (OpPost (Nat.gcd (val s) (val t)) s t w) := by
  have hss := size_of_isN hs
  have hts := size_of_isN ht
  have hEnv := Lib.hid hE
  have HG := Lib.hid (op_good (k := Nat.gcd (val s) (val t)) hs ht)
  have c1 := is_any s w (by omega)
  rw [hs] at c1
  have HS := Lib.hid hs
  have HT := Lib.hid ht
  clear hs ht
  have hs := HS.out
  have ht := HT.out
  replace hs := Lib.hid hs
  replace ht := Lib.hid ht
  replace hE := Lib.hid hE
  go_enter Tryz.func87, Tryz.ntmps87
  go_wp2_with fail
  refine c1.mono ?_
  rintro e w1 ⟨rfl, hb1⟩
  have hbA1 := Lib.hid hb1
  clear hb1
  go_wp2_with fail
  have c2 := is_any t w1 (by omega)
  rw [ht.out] at c2
  refine c2.mono ?_
  rintro e w2 ⟨rfl, hb2⟩
  have hbA2 := Lib.hid (hbA1.out.trans (hb2.mono hbA1.out.size))
  clear hb2 c1 c2 hbA1
  go_wp2_with fail
  refine (parse_num s w2 hs.out).mono ?_
  rintro e w3 ⟨v1, rfl, hn1, _, hb3⟩
  have hbA3 := Lib.hid (hbA2.out.trans (hb3.mono hbA2.out.size))
  replace hn1 := Lib.hid hn1
  clear hb3 hbA2
  go_wp2_with fail
  refine (parse_num t w3 ht.out).mono ?_
  rintro e w4 ⟨v2, rfl, hn2, _, hb2⟩
  have hbA2 := Lib.hid (hbA3.out.trans (hb2.mono hbA3.out.size))
  replace hb2 := Lib.hid hb2
  replace hn2 := Lib.hid hn2
  clear hbA3
  go_wp2_with fail
  have hs' := hs.out
  have ht' := ht.out
  refine (gcd_any _ v1 v2 (val s) (val t) (val s + val t) (hn1.out.below hb2.out) hn2.out (Nat.le_add_right _ _) (Nat.le_add_left _ _) (small_sum9 (val_lt hs.out) (val_lt ht.out)) (by have := hbA2.out.size; have := hE.out.pos; omega)).mono ?_
  rintro e w5 ⟨⟨v3, rfl, hn3⟩, hb3⟩
  have hbA5 := Lib.hid (hbA2.out.trans (hb3.mono hbA2.out.size))
  replace hn3 := Lib.hid hn3
  clear hb3 hbA2 hb2 hn1 hn2 hs' ht'
  go_wp2_with fail
  have ct := text_any w5 v3 _ hn3.out (small_lim (gcd_lt (val_lt hs.out) (val_lt ht.out))) (hE.out.below hbA5.out)
  refine ct.mono ?_
  rintro e w6 ⟨rfl, hb6⟩
  rw [limited_eq]
  have hbA6 := Lib.hid (hbA5.out.trans (hb6.mono hbA5.out.size))
  clear ct hb6 hbA5 hn3
  go_wp2
  go_ret2
  exact ⟨by rw [HG.out.1, HG.out.2]; rfl, hbA6.out⟩

end Nt
end Go.Proofs.YtmekiidknjjfcaaGreatDoor
