/- Plain facts on digits one by one: what the reference's functions on digits compute. No program in sight. -/
import Derived.Test.YtjahnkeafaebdaaGreatDoorNatIs
namespace Go.Proofs.YtjahnkeafaebdaaGreatDoor
open Go.RowKit
namespace Nt

/-- The digit of a row of bytes at a place from the right; 0 beyond its first one. -/
def dgt (l : List UInt8) (i : Nat) : Nat := if h : i < l.length then (l[l.length - 1 - i]'(by omega)).toNat - 48 else 0

theorem dgt_snoc_zero (l : List UInt8) (c : UInt8) : dgt (l ++ [c]) 0 = c.toNat - 48 := by
  unfold dgt
  rw [dif_pos (by simp)]
  simp
theorem dgt_snoc_succ (l : List UInt8) (c : UInt8) (i : Nat) : dgt (l ++ [c]) (i + 1) = dgt l i := by
  unfold dgt
  by_cases h : i < l.length
  · rw [dif_pos (by simp; omega), dif_pos h]
    have e : (l ++ [c]).length - 1 - (i + 1) = l.length - 1 - i := by simp; omega
    simp only [e]
    rw [List.getElem_append_left (by omega)]
  · rw [dif_neg (by simp; omega), dif_neg h]

theorem dgt_dec (n i : Nat) : dgt (Lib.decDigits n) i = n / 10 ^ i % 10 := by
  induction i generalizing n with
  | zero =>
    rw [Lib.decDigits]
    split
    · rw [show ([UInt8.ofNat (48 + n)] : List UInt8) = [] ++ [UInt8.ofNat (48 + n)] from rfl, dgt_snoc_zero, toNat_dig _ (by omega)]
      simp; omega
    · rw [dgt_snoc_zero, toNat_dig _ (Nat.mod_lt _ (by omega))]
      simp
  | succ i ih =>
    rw [Lib.decDigits]
    split
    · rename_i h
      rw [show ([UInt8.ofNat (48 + n)] : List UInt8) = [] ++ [UInt8.ofNat (48 + n)] from rfl, dgt_snoc_succ]
      have h1 : dgt [] i = 0 := rfl
      have h2 : n / 10 ^ (i + 1) = 0 := Nat.div_eq_of_lt (Nat.lt_of_lt_of_le h (by rw [Nat.pow_succ]; have : 0 < 10 ^ i := Nat.pow_pos (by omega); omega))
      rw [h1, h2]
    · rw [dgt_snoc_succ, ih, Nat.pow_succ, Nat.mul_comm, Nat.div_div_eq_div_mul]

theorem dgt_lt (n i : Nat) : dgt (Lib.decDigits n) i < 10 := by rw [dgt_dec]; exact Nat.mod_lt _ (by omega)

/-- The value of digits, the last one first; they need not be less than 10. -/
def dv : List Nat → Nat
  | [] => 0
  | x :: xs => x + 10 * dv xs

theorem dv_append (xs ys : List Nat) : dv (xs ++ ys) = dv xs + 10 ^ xs.length * dv ys := by
  induction xs with
  | nil => simp [dv]
  | cons x xs ih =>
    simp only [List.cons_append, dv, ih, List.length_cons, Nat.pow_succ, Nat.mul_add]
    rw [Nat.mul_comm (10 ^ xs.length) 10, Nat.mul_assoc]
    omega

theorem dv_snoc (xs : List Nat) (y : Nat) : dv (xs ++ [y]) = dv xs + 10 ^ xs.length * y := by rw [dv_append]; simp [dv]

theorem dv_set (zs : List Nat) (p y : Nat) (h : p < zs.length) : dv (zs.set p y) + 10 ^ p * lim zs p = dv zs + 10 ^ p * y := by
  induction zs generalizing p with
  | nil => simp at h
  | cons z zs ih =>
    cases p with
    | zero => simp [dv, lim]; omega
    | succ p =>
      have := ih p (by simpa using h)
      have e : lim (z :: zs) (p + 1) = lim zs p := by simp [lim]
      rw [e]
      simp only [List.set_cons_succ, dv, Nat.pow_succ]
      rw [Nat.mul_comm (10 ^ p) 10, Nat.mul_assoc, Nat.mul_assoc]
      omega

theorem dv_zeros (n : Nat) : dv (List.replicate n 0) = 0 := by
  induction n with
  | zero => rfl
  | succ n ih => rw [List.replicate_succ, dv, ih]

theorem dv_ge (zs : List Nat) (p : Nat) (h : p < zs.length) : 10 ^ p * lim zs p ≤ dv zs := by
  have := dv_set zs p 0 h
  omega

/-- The bytes of digits: the last one first. -/
def dbytes (ds : List Nat) : List UInt8 := (ds.map fun d => UInt8.ofNat (48 + d)).reverse

theorem dbytes_len (ds : List Nat) : (dbytes ds).length = ds.length := by simp [dbytes]
theorem dbytes_dig {ds : List Nat} (h : ∀ d ∈ ds, d < 10) : ∀ c ∈ dbytes ds, isDig c := by
  intro c hc
  simp only [dbytes, List.mem_reverse, List.mem_map] at hc
  obtain ⟨d, hd, rfl⟩ := hc
  have := h d hd
  unfold isDig
  rw [toNat_dig _ this]
  omega
theorem dval_dbytes {ds : List Nat} (h : ∀ d ∈ ds, d < 10) : dval (dbytes ds) = dv ds := by
  induction ds with
  | nil => rfl
  | cons d ds ih =>
    have e : dbytes (d :: ds) = dbytes ds ++ [UInt8.ofNat (48 + d)] := by simp [dbytes]
    rw [e, dval_append, ih (fun x hx => h x (by simp [hx]))]
    have hd := h d (by simp)
    simp only [List.length_cons, List.length_nil, dval, List.foldl_cons, List.foldl_nil, toNat_dig d hd, dv]
    omega

/-- Leading zeros gone. -/
theorem trimmed {l : List UInt8} {i : Nat} (hd : ∀ c ∈ l, isDig c) (hi : i < l.length) (hz : ∀ j, (h : j < i) → l[j]'(by omega) = 48) (he : i + 1 = l.length ∨ l[i] ≠ 48) :
    l.drop i = Lib.decDigits (dval l) := by
  have hv : dval (l.drop i) = dval l := by
    have e : l = List.replicate i 48 ++ l.drop i := by
      conv => lhs; rw [← List.take_append_drop i l]
      congr 1
      apply List.ext_getElem
      · simp; omega
      · intro j h1 h2
        simp at h1
        simp [hz j (by omega)]
    conv => rhs; rw [e, dval_zeros]
  rw [← hv]
  refine (decDigits_dval _ _ rfl ?_ (fun c hc => hd c (List.mem_of_mem_drop hc)) ?_).symm
  · intro h
    have := congrArg List.length h
    simp at this
    omega
  · rcases he with he | he
    · left; simp; omega
    · right
      rw [List.head?_drop, List.getElem?_eq_getElem hi]
      intro e
      exact he (Option.some.inj e)

/-- Texts of the same length compare as their values do; a shorter one is less. -/
theorem dec_len_lt {a b : Nat} (h : (Lib.decDigits a).length < (Lib.decDigits b).length) : a < b := by
  have h0 : 0 < (Lib.decDigits a).length := List.length_pos_iff.2 (decDigits_ne a)
  have h1 := (decDigits_len_iff a _ h0).1 (Nat.le_refl _)
  have h2 : ¬ b < 10 ^ (Lib.decDigits a).length := fun h' => by
    have := decDigits_len h' h0
    omega
  omega

theorem bytes_lt : ∀ {l m : List UInt8}, l.length = m.length → (∀ c ∈ l, isDig c) → (∀ c ∈ m, isDig c) → (Op.bytesLess l m = true ↔ dval l < dval m) := by
  intro l
  induction l with
  | nil =>
    intro m hl _ _
    have : m = [] := List.length_eq_zero_iff.1 hl.symm
    subst this
    simp [Op.bytesLess]
  | cons a l ih =>
    intro m hl hd he
    cases m with
    | nil => simp at hl
    | cons b m =>
      have hl' : l.length = m.length := by simpa using hl
      have i := ih hl' (fun c hc => hd c (by simp [hc])) (fun c hc => he c (by simp [hc]))
      have ha := hd a (by simp)
      have hb := he b (by simp)
      have h1 := dval_lt (l := l) (fun c hc => hd c (by simp [hc]))
      have h2 := dval_lt (l := m) (fun c hc => he c (by simp [hc]))
      rw [dval_cons, dval_cons, hl']
      rw [hl'] at h1
      generalize 10 ^ m.length = P at *
      unfold Op.bytesLess
      rcases Nat.lt_trichotomy a.toNat b.toNat with h | h | h
      · have e : (a < b) = True := by simp [UInt8.lt_iff_toNat_lt, h]
        have h3 : (a.toNat - 48 + 1) * P ≤ (b.toNat - 48) * P := Nat.mul_le_mul_right _ (by have := ha.1; omega)
        rw [Nat.add_mul] at h3
        simp only [e, decide_true, Bool.true_or, true_iff]
        omega
      · obtain rfl : a = b := UInt8.toNat_inj.1 h
        have e : (a < a) = False := by simp
        simp only [e, decide_false, beq_self_eq_true, Bool.true_and, Bool.false_or, i]
        omega
      · have e : (a < b) = False := by simp [UInt8.lt_iff_toNat_lt]; omega
        have e2 : (a == b) = false := by rw [beq_eq_false_iff_ne]; intro h'; subst h'; omega
        have h3 : (b.toNat - 48 + 1) * P ≤ (a.toNat - 48) * P := Nat.mul_le_mul_right _ (by have := hb.1; omega)
        rw [Nat.add_mul] at h3
        simp only [e, e2, decide_false, Bool.false_and, Bool.or_false, Bool.false_eq_true, false_iff]
        omega

theorem dec_less {a b : Nat} (h : (Lib.decDigits a).length = (Lib.decDigits b).length) : Op.bytesLess (Lib.decDigits a) (Lib.decDigits b) = true ↔ a < b := by
  have := bytes_lt h (decDigits_dig a) (decDigits_dig b)
  rwa [dval_decDigits, dval_decDigits] at this

/-- The lowest digits of a number, one more at a time. -/
theorem mod_pow_succ (a i : Nat) : a % 10 ^ (i + 1) = a % 10 ^ i + 10 ^ i * (a / 10 ^ i % 10) := by
  rw [Nat.pow_succ, Nat.mod_mul]

/-- One round of an addition. -/
theorem plus_round {D a b i c : Nat} (h : D + 10 ^ i * c = a % 10 ^ i + b % 10 ^ i) :
    D + 10 ^ i * ((a / 10 ^ i % 10 + b / 10 ^ i % 10 + c) % 10) + 10 ^ (i + 1) * ((a / 10 ^ i % 10 + b / 10 ^ i % 10 + c) / 10) = a % 10 ^ (i + 1) + b % 10 ^ (i + 1) := by
  rw [mod_pow_succ, mod_pow_succ, Nat.pow_succ]
  generalize a / 10 ^ i % 10 = x
  generalize b / 10 ^ i % 10 = y
  generalize 10 ^ i = P at *
  have e : P * (x + y + c) = P * ((x + y + c) % 10) + P * 10 * ((x + y + c) / 10) := by
    rw [Nat.mul_assoc, ← Nat.mul_add, Nat.mod_add_div]
  rw [Nat.mul_add, Nat.mul_add] at e
  omega

/-- One round of a subtraction. -/
theorem minus_round {D a b i c z c' : Nat} (h : D + b % 10 ^ i = a % 10 ^ i + 10 ^ i * c) (e : z + b / 10 ^ i % 10 + c = a / 10 ^ i % 10 + 10 * c') :
    D + 10 ^ i * z + b % 10 ^ (i + 1) = a % 10 ^ (i + 1) + 10 ^ (i + 1) * c' := by
  rw [mod_pow_succ, mod_pow_succ, Nat.pow_succ]
  generalize a / 10 ^ i % 10 = x at *
  generalize b / 10 ^ i % 10 = y at *
  generalize 10 ^ i = P at *
  have e2 : P * z + P * y + P * c = P * x + P * 10 * c' := by
    rw [Nat.mul_assoc, ← Nat.mul_add, ← Nat.mul_add, ← Nat.mul_add, e]
  omega

theorem mod_all {a i : Nat} (h : (Lib.decDigits a).length ≤ i) : a % 10 ^ i = a := by
  have h0 : 0 < (Lib.decDigits a).length := List.length_pos_iff.2 (decDigits_ne a)
  exact Nat.mod_eq_of_lt ((decDigits_len_iff a i (by omega)).1 h)

end Nt
end Go.Proofs.YtjahnkeafaebdaaGreatDoor
