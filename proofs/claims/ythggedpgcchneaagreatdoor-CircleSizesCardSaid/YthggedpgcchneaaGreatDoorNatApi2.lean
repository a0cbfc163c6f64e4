/- The walk of natural's Div; plain facts for Of and Int. -/
import Derived.Test.YthggedpgcchneaaGreatDoorNatApi
import Derived.LaidEql
namespace Go.Proofs.YthggedpgcchneaaGreatDoor
open Go.RowKit Go.Shelf
namespace Nt

def divQ (s t : ByteArray) : ByteArray := if isN s = true ∧ isN t = true ∧ val t ≠ 0 then num (val s / val t) else ⟨#[]⟩
def divR (s t : ByteArray) : ByteArray := if isN s = true ∧ isN t = true ∧ val t ≠ 0 then num (val s % val t) else ⟨#[]⟩
def divE (s t : ByteArray) : Int := if isN s = true ∧ isN t = true then (if val t = 0 then 15 else 0) else 1
def DivPost (s t : ByteArray) (w : World) (e : Ending) (w' : World) : Prop := e = .returned (.tuple #[.string (divQ s t), .string (divR s t), .int .i64 (divE s t)]) ∧ Below w.heap.size w w'

theorem zero_iff {t : ByteArray} (h : isN t = true) : t.toList = [48] ↔ val t = 0 := by
  obtain ⟨n, _, rfl⟩ := num_of_isN h
  rw [val_num, Lib.toList_data]
  constructor
  · intro e
    have h := val_num n
    unfold val at h
    rw [e] at h
    rw [← h]
    rfl
  · intro e
    subst e
    show Lib.decDigits 0 = [48]
    rw [Lib.decDigits_one (by omega)]
    rfl

def ofS (n : Int) : ByteArray := if n < 0 then ⟨#[]⟩ else num n.toNat

theorem parse10 : ∀ (l : List UInt8) (a : Nat), (∀ c ∈ l, isDig c) → a < 18446744073709551616 → Lib.parseUint10 a l = if a * 10 ^ l.length + dval l < 18446744073709551616 then .ok (a * 10 ^ l.length + dval l) else .range := by
  intro l
  induction l with
  | nil =>
    intro a _ ha
    simp only [Lib.parseUint10, List.length_nil, Nat.pow_zero, Nat.mul_one, dval_nil, Nat.add_zero]
    rw [if_pos ha]
  | cons c l ih =>
    intro a h ha
    have h1 := h c (by simp)
    have hp : 1 ≤ 10 ^ l.length := Nat.pow_pos (by omega)
    have e : a * 10 ^ (c :: l).length + dval (c :: l) = (a * 10 + (c.toNat - 48)) * 10 ^ l.length + dval l := by
      rw [dval_cons, List.length_cons, Nat.pow_succ, Nat.add_mul, Nat.mul_assoc a 10, Nat.mul_comm 10]
      omega
    rw [e]
    have hge : a * 10 + (c.toNat - 48) ≤ (a * 10 + (c.toNat - 48)) * 10 ^ l.length := Nat.le_mul_of_pos_right _ hp
    rw [Lib.parseUint10, if_pos (show 48 ≤ c.toNat ∧ c.toNat ≤ 57 from h1)]
    by_cases c1 : 1844674407370955162 ≤ a
    · rw [if_pos c1, if_neg (by omega)]
    · rw [if_neg c1]
      by_cases c2 : 18446744073709551616 ≤ a * 10 + (c.toNat - 48)
      · rw [if_pos c2, if_neg (by omega)]
      · rw [if_neg c2]
        exact ih _ (fun d hd => h d (by simp [hd])) (by omega)

theorem atoi_num (n : Nat) : Lib.atoiAll (num n).data.toList = if n ≤ 9223372036854775807 then .ok (n : Int) else .range := by
  have hd := decDigits_dig n
  have hv := dval_decDigits n
  show Lib.atoiAll (Lib.decDigits n) = _
  cases hl : Lib.decDigits n with
  | nil => exact absurd hl (decDigits_ne n)
  | cons c r =>
    rw [hl] at hd hv
    have h1 := hd c (by simp)
    have h2 := h1.1
    have hp := parse10 (c :: r) 0 hd (by omega)
    rw [Nat.zero_mul, Nat.zero_add, hv] at hp
    unfold Lib.atoiAll
    simp only [Lib.parseMag]
    have hneg : ¬ c.toNat = 45 := by omega
    have hneg2 : ¬ (c.toNat = 43 ∨ c.toNat = 45) := by omega
    rw [if_neg hneg2, if_neg (by simp), hp]
    by_cases hle : n ≤ 9223372036854775807
    · rw [if_pos (by omega), if_pos hle]
      simp only [hneg]
      rw [if_neg (by omega), if_neg (by simp), if_neg (by simp)]
    · rw [if_neg hle]
      by_cases h64 : n < 18446744073709551616
      · rw [if_pos h64]
        simp only [hneg]
        rw [if_pos ⟨by simp, by omega⟩]
      · rw [if_neg h64]

def intV (s : ByteArray) : Int := if isN s = true ∧ val s ≤ 9223372036854775807 then (val s : Int) else 0
def intE (s : ByteArray) : Int := if isN s = true then (if val s ≤ 9223372036854775807 then 0 else 10) else 1

theorem num_lit (l : List UInt8) (n : Nat) (h : isNL l = true) (hv : dval l = n) : num n = ⟨l.toArray⟩ := by
  have := num_val (s := ⟨l.toArray⟩) h
  rw [← this]
  exact congrArg num hv.symm
theorem strL_lit (l : List UInt8) (n : Nat) (h : isNL l = true) (hv : dval l = n) : strL n = ⟨l.toArray⟩ ∧ errL n = 0 := by
  have hlt : n < Lim := by
    have h2 := val_lt (s := ⟨l.toArray⟩) h
    rw [← hv]; exact h2
  unfold strL errL
  rw [if_pos hlt, if_pos hlt]
  exact ⟨num_lit l n h hv, rfl⟩

end Nt
end Go.Proofs.YthggedpgcchneaaGreatDoor
