/- Plain facts on rational numbers and their texts: no program in sight. -/
import Derived.Test.YtmekiidknjjfcaaGreatDoorNatO
namespace Go.Proofs.YtmekiidknjjfcaaGreatDoor
open Go.RowKit Go.Shelf
namespace Nt

/-- A number of a sign and a size. -/
def sg (g : Bool) (a : Nat) : Int := if g then -(a : Int) else a
theorem sg_natAbs (g : Bool) (a : Nat) : (sg g a).natAbs = a := by cases g <;> simp [sg]
theorem sg_neg (g : Bool) (a : Nat) : decide (sg g a < 0) = (g && !decide (a = 0)) := by
  rw [Bool.eq_iff_iff]
  cases g
  · simp [sg]
  · simp [sg]; omega
theorem sg_self (z : Int) : sg (decide (z < 0)) z.natAbs = z := by
  unfold sg
  by_cases h : z < 0
  · simp [h]; omega
  · simp [h]; omega
theorem sg_mul (g h : Bool) (a b : Nat) : sg g a * sg h b = sg (g != h) (a * b) := by
  cases g <;> cases h <;> simp [sg, Int.neg_mul, Int.mul_neg]

theorem mk_num (g : Bool) (a b : Nat) (hb : b ≠ 0) : (mkRat (sg g a) b).num = sg g (a / Nat.gcd a b) := by
  rw [Rat.num_mkRat, if_neg hb, sg_natAbs, Nat.gcd_comm]
  cases g
  · simp [sg]
  · simp only [sg, if_true]
    rw [Int.neg_ediv_of_dvd (Int.ofNat_dvd.2 (Nat.gcd_dvd_left a b)), Int.natCast_ediv]
theorem mk_den (g : Bool) (a b : Nat) (hb : b ≠ 0) : (mkRat (sg g a) b).den = b / Nat.gcd a b := by
  rw [Rat.den_mkRat, if_neg hb, sg_natAbs, Nat.gcd_comm]

/-- The value of a rational number. -/
def qv (q : Rat) : Value := .agg #[.bool (decide (q.num < 0)), .string (T (some q.num.natAbs)), .string (T (some q.den))]
def zv : Value := .agg #[.bool false, .string ⟨#[]⟩, .string ⟨#[]⟩]
def OkQ (q : Rat) : Prop := q.num.natAbs < Lim ∧ q.den < Lim

theorem qv_mk (g : Bool) (a b : Nat) (hb : b ≠ 0) : qv (mkRat (sg g a) b) = .agg #[.bool (g && !decide (a / Nat.gcd a b = 0)), .string (T (some (a / Nat.gcd a b))), .string (T (some (b / Nat.gcd a b)))] := by
  unfold qv
  rw [mk_num g a b hb, mk_den g a b hb, sg_neg, sg_natAbs]
theorem okQ_mk (g : Bool) (a b : Nat) (hb : b ≠ 0) (ha : a < Lim) (hbl : b < Lim) : OkQ (mkRat (sg g a) b) := by
  unfold OkQ
  rw [mk_num g a b hb, mk_den g a b hb, sg_natAbs]
  exact ⟨Nat.lt_of_le_of_lt (Nat.div_le_self _ _) ha, Nat.lt_of_le_of_lt (Nat.div_le_self _ _) hbl⟩

/-- Whether three fields are a rational number in lowest terms. -/
def validB (g : Bool) (n d : ByteArray) : Bool :=
  isN n && (isN d && (!decide (val d = 0) && (if val n = 0 then !g && decide (val d = 1) else decide (Nat.gcd (val n) (val d) = 1))))

theorem valid_num (g : Bool) (a b : Nat) (ha : a < Lim) (hb : b < Lim) : validB g (num a) (num b) = (!decide (b = 0) && (if a = 0 then !g && decide (b = 1) else decide (Nat.gcd a b = 1))) := by
  unfold validB
  rw [isN_num ha, isN_num hb, val_num, val_num, Bool.true_and, Bool.true_and]

theorem valid_qv {q : Rat} (h : OkQ q) : validB (decide (q.num < 0)) (T (some q.num.natAbs)) (T (some q.den)) = true := by
  show validB _ (num _) (num _) = true
  rw [valid_num _ _ _ h.1 h.2]
  have hd := q.den_nz
  have hr : Nat.gcd q.num.natAbs q.den = 1 := q.reduced
  by_cases h0 : q.num.natAbs = 0
  · rw [h0, Nat.gcd_zero_left] at hr
    have : ¬ q.num < 0 := by omega
    simp [h0, hr, this]
  · simp [h0, hd, hr]

theorem of_valid {g : Bool} {n d : ByteArray} (h : validB g n d = true) : ∃ q : Rat, OkQ q ∧ g = decide (q.num < 0) ∧ n = T (some q.num.natAbs) ∧ d = T (some q.den) := by
  have h1 : isN n = true := by unfold validB at h; simp only [Bool.and_eq_true] at h; exact h.1
  have h2 : isN d = true := by unfold validB at h; simp only [Bool.and_eq_true] at h; exact h.2.1
  obtain ⟨a, ha, rfl⟩ := num_of_isN h1
  obtain ⟨b, hb, rfl⟩ := num_of_isN h2
  rw [valid_num g a b ha hb] at h
  simp only [Bool.and_eq_true, Bool.not_eq_true', decide_eq_false_iff_not] at h
  obtain ⟨hb0, h3⟩ := h
  have hcop : Nat.gcd a b = 1 := by
    by_cases h0 : a = 0
    · rw [if_pos h0] at h3
      simp at h3
      rw [h0, h3.2]; rfl
    · rw [if_neg h0] at h3
      simpa using h3
  have hg : g = decide (sg g a < 0) := by
    rw [sg_neg]
    by_cases h0 : a = 0
    · rw [if_pos h0] at h3
      simp at h3
      rw [h3.1]; rfl
    · simp [h0]
  refine ⟨⟨sg g a, b, hb0, by rw [sg_natAbs]; exact hcop⟩, ⟨by show (sg g a).natAbs < Lim; rw [sg_natAbs]; exact ha, hb⟩, hg, ?_, rfl⟩
  show num a = num (sg g a).natAbs
  rw [sg_natAbs]

theorem qv_inj {p q : Rat} (h : qv p = qv q) : p = q := by
  unfold qv at h
  simp only [Value.agg.injEq, Array.mk.injEq, List.cons.injEq, Value.bool.injEq, Value.string.injEq, and_true] at h
  obtain ⟨h1, h2, h3⟩ := h
  have e2 : p.num.natAbs = q.num.natAbs := num_inj h2
  have e3 : p.den = q.den := num_inj h3
  refine Rat.ext ?_ e3
  rw [← sg_self p.num, ← sg_self q.num, h1, e2]

/-- 10 to the 140. -/
@[irreducible] def mx1 : Nat := 140
theorem mx1_eq : mx1 = 140 := by unfold mx1; rfl
def L1 : Nat := 10 ^ mx1
theorem size_L1 (n : Nat) : (num n).size ≤ 140 ↔ n < L1 := by
  have := decDigits_len_iff n mx1 (by rw [mx1_eq]; omega)
  have e : (num n).size = (Lib.decDigits n).length := by simp [num, ByteArray.size]
  rw [e, ← mx1_eq]
  exact this
theorem L1_pos : 1 ≤ L1 := Nat.pow_pos (by omega)
theorem L1_sq : 2 * (L1 * L1) < Lim := by
  have e : L1 * L1 = 10 ^ (mx1 + mx1) := by unfold L1; rw [Nat.pow_add]
  have h : 10 ^ (mx1 + mx1 + 1) ≤ Lim := by
    unfold Lim
    exact Nat.pow_le_pow_right (by omega) (by rw [mx1_eq, mxd_eq]; omega)
  rw [Nat.pow_succ] at h
  rw [e]
  have h2 : 0 < 10 ^ (mx1 + mx1) := Nat.pow_pos (by omega)
  omega
theorem L1_mul {a b : Nat} (ha : a < L1) (hb : b < L1) : a * b < L1 * L1 := Nat.mul_lt_mul'' ha hb
theorem L1_lim {a : Nat} (h : a < L1) : a < Lim := by
  have h1 := L1_sq
  have h2 := L1_pos
  have h3 : L1 * 1 ≤ L1 * L1 := Nat.mul_le_mul_left _ h2
  omega

/-- A number that is not too long for an operation. -/
def ShortQ (q : Rat) : Prop := q.num.natAbs < L1 ∧ q.den < L1
instance (q : Rat) : Decidable (ShortQ q) := inferInstanceAs (Decidable (_ ∧ _))
theorem ShortQ.ok {q : Rat} (h : ShortQ q) : OkQ q := ⟨L1_lim h.1, L1_lim h.2⟩

/-- The sum of two numbers out of signs and sizes. -/
theorem add_mk (p q : Rat) : mkRat (p.num * q.den + q.num * p.den) (p.den * q.den) = p + q := (Rat.add_def' p q).symm
theorem sum_same {g : Bool} {x y : Nat} {p q : Rat} (hp : g = decide (p.num < 0)) (hq : g = decide (q.num < 0)) (hx : x = p.num.natAbs * q.den) (hy : y = q.num.natAbs * p.den) :
    sg g (x + y) = p.num * q.den + q.num * p.den := by
  rw [← sg_self p.num, ← sg_self q.num, ← hp, ← hq, hx, hy]
  cases g
  · simp [sg]
  · simp only [sg, if_true, Int.natCast_add, Int.natCast_mul, Int.neg_mul]
    omega
theorem sum_less {g h : Bool} {x y : Nat} {p q : Rat} (hp : g = decide (p.num < 0)) (hq : h = decide (q.num < 0)) (hx : x = p.num.natAbs * q.den) (hy : y = q.num.natAbs * p.den) (hne : g ≠ h) (hl : x < y) :
    sg h (y - x) = p.num * q.den + q.num * p.den := by
  rw [← sg_self p.num, ← sg_self q.num, ← hp, ← hq]
  have e1 : (x : Int) = (p.num.natAbs : Int) * (q.den : Int) := by rw [hx, Int.natCast_mul]
  have e2 : (y : Int) = (q.num.natAbs : Int) * (p.den : Int) := by rw [hy, Int.natCast_mul]
  cases g <;> cases h <;> simp only [sg, if_true, Bool.false_eq_true, if_false, Int.neg_mul, ne_eq, not_true_eq_false] at hne ⊢
  all_goals omega
theorem sum_more {g h : Bool} {x y : Nat} {p q : Rat} (hp : g = decide (p.num < 0)) (hq : h = decide (q.num < 0)) (hx : x = p.num.natAbs * q.den) (hy : y = q.num.natAbs * p.den) (hne : g ≠ h) (hl : y ≤ x) :
    sg g (x - y) = p.num * q.den + q.num * p.den := by
  rw [← sg_self p.num, ← sg_self q.num, ← hp, ← hq]
  have e1 : (x : Int) = (p.num.natAbs : Int) * (q.den : Int) := by rw [hx, Int.natCast_mul]
  have e2 : (y : Int) = (q.num.natAbs : Int) * (p.den : Int) := by rw [hy, Int.natCast_mul]
  cases g <;> cases h <;> simp only [sg, if_true, Bool.false_eq_true, if_false, Int.neg_mul, ne_eq, not_true_eq_false] at hne ⊢
  all_goals omega

theorem mul_mk (p q : Rat) : mkRat (sg (decide (p.num < 0) != decide (q.num < 0)) (p.num.natAbs * q.num.natAbs)) (p.den * q.den) = p * q := by
  rw [← sg_mul, sg_self, sg_self, Rat.mul_def']
theorem div_mk (p q : Rat) : mkRat (sg (decide (p.num < 0) != decide (q.num < 0)) (p.num.natAbs * q.den)) (p.den * q.num.natAbs) = p / q := by
  have hi : q⁻¹ = mkRat (sg (decide (q.num < 0)) q.den) q.num.natAbs := by
    rw [Rat.inv_def]
    unfold sg
    by_cases hn : q.num < 0
    · have e : q.num = -((q.num.natAbs : Nat) : Int) := by omega
      rw [decide_eq_true hn, if_pos rfl]
      conv => lhs; rw [e]
      rw [Rat.divInt_neg', Rat.divInt_ofNat]
    · have e : q.num = ((q.num.natAbs : Nat) : Int) := by omega
      rw [decide_eq_false hn]
      conv => lhs; rw [e]
      rw [Rat.divInt_ofNat]
      rfl
  have hp : p = mkRat (sg (decide (p.num < 0)) p.num.natAbs) p.den := by rw [sg_self, Rat.mkRat_self]
  show _ = p * q⁻¹
  rw [hi]
  conv => rhs; rw [hp]
  rw [Rat.mkRat_mul_mkRat, sg_mul]

end Nt
end Go.Proofs.YtmekiidknjjfcaaGreatDoor
