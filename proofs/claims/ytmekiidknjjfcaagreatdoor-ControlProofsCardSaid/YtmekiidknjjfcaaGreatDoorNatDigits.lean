/- Plain facts on decimal digits: no program in sight. -/
import Derived.Test.YtmekiidknjjfcaaGreatDoorNatPlain
import Derived.Lib.ItoaNum
import Derived.Lib.ParseIntB
namespace Go.Proofs.YtmekiidknjjfcaaGreatDoor
open Go.RowKit
namespace Nt

/-- The value of a row of decimal digits. -/
def dval (l : List UInt8) : Nat := l.foldl (fun a c => a * 10 + (c.toNat - 48)) 0

def isDig (c : UInt8) : Prop := 48 ≤ c.toNat ∧ c.toNat ≤ 57

theorem foldl_dval (l : List UInt8) (a : Nat) : l.foldl (fun a c => a * 10 + (c.toNat - 48)) a = a * 10 ^ l.length + dval l := by
  induction l generalizing a with
  | nil => simp [dval]
  | cons c l ih =>
    simp only [List.foldl_cons, List.length_cons, dval]
    rw [ih, ih (0 * 10 + (c.toNat - 48)), Nat.pow_succ, Nat.zero_mul, Nat.zero_add, Nat.add_mul, Nat.mul_assoc, Nat.mul_comm 10]
    omega

theorem dval_append (l m : List UInt8) : dval (l ++ m) = dval l * 10 ^ m.length + dval m := by
  unfold dval
  rw [List.foldl_append, foldl_dval]
  rfl

theorem dval_nil : dval [] = 0 := rfl
theorem dval_cons (c : UInt8) (l : List UInt8) : dval (c :: l) = (c.toNat - 48) * 10 ^ l.length + dval l := by
  rw [show c :: l = [c] ++ l from rfl, dval_append]
  simp [dval]

theorem dval_lt {l : List UInt8} (h : ∀ c ∈ l, isDig c) : dval l < 10 ^ l.length := by
  induction l with
  | nil => simp [dval]
  | cons c l ih =>
    have h1 := h c (by simp)
    have h2 := ih (fun d hd => h d (by simp [hd]))
    rw [dval_cons, List.length_cons, Nat.pow_succ]
    have h3 : (c.toNat - 48) * 10 ^ l.length ≤ 9 * 10 ^ l.length := Nat.mul_le_mul_right _ (by have := h1.2; omega)
    omega

theorem parse_chunk {l : List UInt8} (h : ∀ c ∈ l, isDig c) (h0 : l ≠ []) (hl : l.length ≤ 9) : Lib.parseUintB 64 l = .ok (dval l) := by
  have key : ∀ (m : List UInt8) (a : Nat), (∀ c ∈ m, isDig c) → a * 10 ^ m.length + 10 ^ m.length ≤ 1000000000 → Lib.parseUintM (2 ^ 64 - 1) a m = .ok (a * 10 ^ m.length + dval m) := by
    intro m
    induction m with
    | nil => intro a _ _; simp [Lib.parseUintM, dval]
    | cons c m ih =>
      intro a hm hb
      have h1 := hm c (by simp)
      rw [List.length_cons, Nat.pow_succ] at hb
      have hp : 0 < 10 ^ m.length := Nat.pow_pos (by omega)
      have ha : a * 10 ^ m.length ≤ 100000000 := by
        rw [← Nat.mul_assoc] at hb; omega
      have ha' : a ≤ 100000000 := Nat.le_trans (Nat.le_mul_of_pos_right a hp) ha
      have hc := h1.2
      unfold Lib.parseUintM
      rw [if_pos (show 48 ≤ c.toNat ∧ c.toNat ≤ 57 from h1), if_neg (by omega), if_neg (by omega), ih _ (fun d hd => hm d (by simp [hd])) ?_]
      · rw [dval_cons, List.length_cons, Nat.pow_succ, Nat.add_mul, Nat.mul_assoc, Nat.mul_comm 10]
        congr 1; omega
      · have h3 : (c.toNat - 48) * 10 ^ m.length ≤ 9 * 10 ^ m.length := Nat.mul_le_mul_right _ (by omega)
        have h4 : a * (10 ^ m.length * 10) = a * 10 * 10 ^ m.length := by rw [Nat.mul_comm (10 ^ m.length), Nat.mul_assoc]
        rw [Nat.add_mul]
        omega
  unfold Lib.parseUintB
  rw [if_neg h0, key l 0 h ?_]
  · rw [Nat.zero_mul, Nat.zero_add]
  · rw [Nat.zero_mul, Nat.zero_add]
    exact Nat.le_trans (Nat.pow_le_pow_right (by omega) hl) (by decide)

theorem toNat_dig (d : Nat) (h : d < 10) : (UInt8.ofNat (48 + d)).toNat = 48 + d := by
  rw [UInt8.toNat_ofNat']
  omega

theorem decDigits_dig (u : Nat) : ∀ c ∈ Lib.decDigits u, isDig c := by
  induction u using Nat.strongRecOn with
  | _ u ih =>
    rw [Lib.decDigits]
    split
    · intro c hc
      simp only [List.mem_cons, List.not_mem_nil, or_false] at hc
      subst hc
      unfold isDig
      rw [toNat_dig _ (by omega)]
      omega
    · intro c hc
      rcases List.mem_append.1 hc with h | h
      · exact ih (u / 10) (by omega) c h
      · simp only [List.mem_cons, List.not_mem_nil, or_false] at h
        subst h
        unfold isDig
        rw [toNat_dig _ (by omega)]
        omega

theorem dval_decDigits (u : Nat) : dval (Lib.decDigits u) = u := by
  induction u using Nat.strongRecOn with
  | _ u ih =>
    rw [Lib.decDigits]
    split
    · simp only [dval, List.foldl_cons, List.foldl_nil, toNat_dig u (by omega)]
      omega
    · rw [dval_append, ih (u / 10) (by omega)]
      simp only [List.length_cons, List.length_nil, dval, List.foldl_cons, List.foldl_nil, toNat_dig _ (Nat.mod_lt u (show 0 < 10 by omega))]
      omega

theorem decDigits_ne (u : Nat) : Lib.decDigits u ≠ [] := by
  rw [Lib.decDigits]
  split <;> simp

theorem head_append (l m : List UInt8) (h : l ≠ []) : (l ++ m).head? = l.head? := by
  cases l with
  | nil => exact absurd rfl h
  | cons a l => rfl

theorem decDigits_head (u : Nat) (h : 0 < u) : (Lib.decDigits u).head? ≠ some 48 := by
  induction u using Nat.strongRecOn with
  | _ u ih =>
    rw [Lib.decDigits]
    split
    · intro e
      simp only [List.head?_cons, Option.some.injEq] at e
      have := congrArg UInt8.toNat e
      rw [toNat_dig _ (by omega)] at this
      simp at this
      omega
    · rw [head_append _ _ (decDigits_ne _)]
      exact ih (u / 10) (by omega) (by omega)

/-- A row of digits without a leading zero is the numeral of its value. -/
theorem decDigits_dval : ∀ (n : Nat) (l : List UInt8), l.length = n → l ≠ [] → (∀ c ∈ l, isDig c) → (l.length = 1 ∨ l.head? ≠ some 48) → Lib.decDigits (dval l) = l := by
  intro n
  induction n with
  | zero => intro l hl h0; exact absurd (List.length_eq_zero_iff.1 hl) h0
  | succ n ih =>
    intro l hl h0 hd hh
    obtain ⟨m, c, rfl⟩ : ∃ m c, l = m ++ [c] := ⟨l.dropLast, l.getLast h0, (List.dropLast_concat_getLast h0).symm⟩
    have hc := hd c (by simp)
    have hcn : UInt8.ofNat (48 + (c.toNat - 48)) = c := by
      apply UInt8.toNat_inj.1
      rw [toNat_dig _ (by have := hc.2; omega)]
      have := hc.1; omega
    have hv : dval (m ++ [c]) = dval m * 10 + (c.toNat - 48) := by rw [dval_append]; simp [dval]
    have hc9 : c.toNat - 48 < 10 := by have := hc.2; omega
    cases m with
    | nil =>
      rw [hv]
      simp only [dval_nil, Nat.zero_mul, Nat.zero_add, List.nil_append]
      rw [Lib.decDigits_one hc9, hcn]
    | cons a m =>
      have hlen : (a :: m).length = n := by simp at hl ⊢; omega
      have hhead : a ≠ 48 := by
        rcases hh with h | h
        · simp at h
        · simpa using h
      have ha := hd a (by simp)
      have hpos : 0 < dval (a :: m) := by
        rw [dval_cons]
        have h1 : 1 ≤ a.toNat - 48 := by
          have : a.toNat ≠ 48 := fun e => hhead (UInt8.toNat_inj.1 e)
          have := ha.1; omega
        have h2 : 1 * 10 ^ m.length ≤ (a.toNat - 48) * 10 ^ m.length := Nat.mul_le_mul_right _ h1
        have h3 : 0 < 10 ^ m.length := Nat.pow_pos (by omega)
        omega
      have hi := ih (a :: m) hlen (by simp) (fun d h => hd d (by simp at h ⊢; rcases h with h | h <;> simp [h])) (.inr (by simpa using hhead))
      rw [hv, Lib.decDigits, dif_neg (by omega), show (dval (a :: m) * 10 + (c.toNat - 48)) / 10 = dval (a :: m) by omega, show (dval (a :: m) * 10 + (c.toNat - 48)) % 10 = c.toNat - 48 by omega, hi, hcn]

theorem dval_zeros (n : Nat) (l : List UInt8) : dval (List.replicate n 48 ++ l) = dval l := by
  induction n with
  | zero => simp
  | succ n ih => rw [List.replicate_succ, List.cons_append, dval_cons, ih]; simp

theorem decDigits_len {u k : Nat} (h : u < 10 ^ k) (hk : 0 < k) : (Lib.decDigits u).length ≤ k := by
  induction k generalizing u with
  | zero => omega
  | succ k ih =>
    rw [Lib.decDigits]
    split
    · simp
    · rename_i h10
      have hu : u / 10 < 10 ^ k := by rw [Nat.pow_succ] at h; omega
      have hk0 : 0 < k := by
        rcases Nat.eq_zero_or_pos k with e | e
        · subst e; simp at h; omega
        · exact e
      have := ih hu hk0
      simp
      omega

theorem decDigits_len_iff (u k : Nat) (hk : 0 < k) : (Lib.decDigits u).length ≤ k ↔ u < 10 ^ k := by
  constructor
  · intro h
    have h1 := dval_lt (decDigits_dig u)
    rw [dval_decDigits] at h1
    exact Nat.lt_of_lt_of_le h1 (Nat.pow_le_pow_right (by omega) h)
  · intro h
    exact decDigits_len h hk

/-- Nine digits of a limb, with zeros ahead. -/
def pad9 (x : Nat) : List UInt8 := List.replicate (9 - (Lib.decDigits x).length) 48 ++ Lib.decDigits x

theorem pad9_len {x : Nat} (h : x < 1000000000) : (pad9 x).length = 9 := by
  have := decDigits_len (k := 9) (u := x) (by simpa using h) (by omega)
  simp [pad9]; omega

theorem decDigits_limb (u x : Nat) (hu : 0 < u) (hx : x < 1000000000) : Lib.decDigits (u * 1000000000 + x) = Lib.decDigits u ++ pad9 x := by
  have hl := pad9_len hx
  have hv : dval (Lib.decDigits u ++ pad9 x) = u * 1000000000 + x := by
    rw [dval_append, hl, dval_decDigits, pad9, dval_zeros, dval_decDigits]
  rw [← hv]
  refine decDigits_dval _ _ rfl (by simp [decDigits_ne]) ?_ (.inr ?_)
  · intro c hc
    rcases List.mem_append.1 hc with h | h
    · exact decDigits_dig u c h
    · rcases List.mem_append.1 h with h | h
      · rw [List.eq_of_mem_replicate h]; exact ⟨by decide, by decide⟩
      · exact decDigits_dig x c h
  · rw [head_append _ _ (decDigits_ne _)]
    exact decDigits_head u hu

end Nt
end Go.Proofs.YtmekiidknjjfcaaGreatDoor
