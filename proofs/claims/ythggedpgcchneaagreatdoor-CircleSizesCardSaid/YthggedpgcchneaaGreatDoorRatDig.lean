/- How many digits results have: plain facts on rational numbers. -/
import Derived.Test.YthggedpgcchneaaGreatDoorRatOps
namespace Go.Proofs.YthggedpgcchneaaGreatDoor
open Go.RowKit
namespace Nt

/-- A number of at most k digits above and below. -/
def Dg (k : Nat) (q : Rat) : Prop := q.num.natAbs < 10 ^ k ∧ q.den < 10 ^ k
theorem Dg.mono {k m : Nat} {q : Rat} (h : Dg k q) (hk : k ≤ m) : Dg m q := by
  have : 10 ^ k ≤ 10 ^ m := Nat.pow_le_pow_right (by omega) hk
  exact ⟨Nat.lt_of_lt_of_le h.1 this, Nat.lt_of_lt_of_le h.2 this⟩
theorem Dg.short {k : Nat} {q : Rat} (h : Dg k q) (hk : k ≤ 140) : ShortQ q := by
  have := h.mono (m := mx1) (by rw [mx1_eq]; exact hk)
  exact this
theorem mkRat_le (n : Int) (d : Nat) (hd : d ≠ 0) : (mkRat n d).num.natAbs ≤ n.natAbs ∧ (mkRat n d).den ≤ d := by
  have e : n = sg (decide (n < 0)) n.natAbs := (sg_self n).symm
  rw [e, mk_num _ _ _ hd, mk_den _ _ _ hd, sg_natAbs, sg_natAbs]
  exact ⟨Nat.div_le_self _ _, Nat.div_le_self _ _⟩
theorem Dg.add {k m : Nat} {p q : Rat} (hp : Dg k p) (hq : Dg m q) : Dg (k + m + 1) (p + q) := by
  have hd : p.den * q.den ≠ 0 := Nat.mul_ne_zero p.den_nz q.den_nz
  have h := mkRat_le (p.num * q.den + q.num * p.den) (p.den * q.den) hd
  rw [add_mk] at h
  have e : 10 ^ (k + m + 1) = 10 ^ k * 10 ^ m * 10 := by rw [Nat.pow_succ, Nat.pow_add]
  have h1 : p.num.natAbs * q.den < 10 ^ k * 10 ^ m := Nat.mul_lt_mul'' hp.1 hq.2
  have h2 : q.num.natAbs * p.den < 10 ^ m * 10 ^ k := Nat.mul_lt_mul'' hq.1 hp.2
  have h3 : p.den * q.den < 10 ^ k * 10 ^ m := Nat.mul_lt_mul'' hp.2 hq.2
  rw [Nat.mul_comm (10 ^ m)] at h2
  have h4 := Int.natAbs_add_le (p.num * q.den) (q.num * p.den)
  rw [Int.natAbs_mul, Int.natAbs_mul, Int.natAbs_natCast, Int.natAbs_natCast] at h4
  unfold Dg
  rw [e]
  generalize 10 ^ k * 10 ^ m = X at *
  exact ⟨by omega, by omega⟩
theorem Dg.neg {k : Nat} {q : Rat} (h : Dg k q) : Dg k (-q) := ⟨by show (-q.num).natAbs < 10 ^ k; rw [Int.natAbs_neg]; exact h.1, h.2⟩
theorem Dg.sub {k m : Nat} {p q : Rat} (hp : Dg k p) (hq : Dg m q) : Dg (k + m + 1) (p - q) := by rw [Rat.sub_eq_add_neg]; exact hp.add hq.neg
theorem Dg.mul {k m : Nat} {p q : Rat} (hp : Dg k p) (hq : Dg m q) : Dg (k + m) (p * q) := by
  have hd : p.den * q.den ≠ 0 := Nat.mul_ne_zero p.den_nz q.den_nz
  have h := mkRat_le (p.num * q.num) (p.den * q.den) hd
  rw [← Rat.mul_def'] at h
  have h1 : p.num.natAbs * q.num.natAbs < 10 ^ k * 10 ^ m := Nat.mul_lt_mul'' hp.1 hq.1
  have h3 : p.den * q.den < 10 ^ k * 10 ^ m := Nat.mul_lt_mul'' hp.2 hq.2
  rw [Int.natAbs_mul] at h
  unfold Dg
  rw [Nat.pow_add]
  exact ⟨by omega, by omega⟩
theorem Dg.div {k m : Nat} {p q : Rat} (hp : Dg k p) (hq : Dg m q) (h0 : q ≠ 0) : Dg (k + m) (p / q) := by
  have hn := num_ne_zero h0
  have hd : p.den * q.num.natAbs ≠ 0 := Nat.mul_ne_zero p.den_nz (by omega)
  have h := mkRat_le (sg (decide (p.num < 0) != decide (q.num < 0)) (p.num.natAbs * q.den)) (p.den * q.num.natAbs) hd
  rw [div_mk, sg_natAbs] at h
  have h1 : p.num.natAbs * q.den < 10 ^ k * 10 ^ m := Nat.mul_lt_mul'' hp.1 hq.2
  have h3 : p.den * q.num.natAbs < 10 ^ k * 10 ^ m := Nat.mul_lt_mul'' hp.2 hq.1
  unfold Dg
  rw [Nat.pow_add]
  exact ⟨by omega, by omega⟩
theorem dg_of_size {q : Rat} {k : Nat} (hk : 0 < k) (h1 : (T (some q.num.natAbs)).size ≤ k) (h2 : (T (some q.den)).size ≤ k) : Dg k q := by
  have e : ∀ n, (T (some n)).size = (Lib.decDigits n).length := fun n => by rw [Lib.size_eq]; rfl
  rw [e] at h1 h2
  exact ⟨(decDigits_len_iff _ k hk).1 h1, (decDigits_len_iff _ k hk).1 h2⟩
theorem qv_fields {p q : Rat} (h : p ≠ q) : ((decide (p.num < 0) == decide (q.num < 0)) && ((T (some p.num.natAbs)).toList == (T (some q.num.natAbs)).toList) && ((T (some p.den)).toList == (T (some q.den)).toList)) = false := by
  rw [Bool.eq_false_iff]
  intro hc
  simp only [Bool.and_eq_true, beq_iff_eq] at hc
  obtain ⟨⟨h1, h2⟩, h3⟩ := hc
  rw [Lib.toList_data, Lib.toList_data] at h2 h3
  apply h
  apply qv_inj
  unfold qv
  rw [h1]
  have e2 : T (some p.num.natAbs) = T (some q.num.natAbs) := congrArg ByteArray.mk (Array.toList_inj.1 h2)
  have e3 : T (some p.den) = T (some q.den) := congrArg ByteArray.mk (Array.toList_inj.1 h3)
  rw [e2, e3]

end Nt
end Go.Proofs.YthggedpgcchneaaGreatDoor
